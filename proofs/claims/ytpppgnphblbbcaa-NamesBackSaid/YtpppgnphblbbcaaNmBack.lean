/- The law of names that lead back: its walk. -/
import Derived.Test.YtpppgnphblbbcaaNmLaws
namespace Go.Proofs.Ytpppgnphblbbcaa
open Go.RowKit

set_option maxRecDepth 100000 in
set_option maxHeartbeats 4000000 in
theorem law_back (W : World) (A : Option Addr) (c : Nat) (l : List StmC) (hr : Rd W W.heap.size A (cellsOf l)) (hz : ∀ x ∈ l, x.s.name.size ≤ maxLen) :
    Calls Try.prog 3 #[.slice A l.length c] W fun e W' => e = .returned (.bool true) ∧ Below W.heap.size W W' := by
  have HR := Lib.hid hr
  have HZ := Lib.hid hz
  clear hr hz
  by_cases h80 : 80 < l.length
  · go_enter Try.func3, Try.ntmps3
    go_wp2_with (go_at_call 16; refine (awake_any _).mono ?_; rintro e w' ⟨rfl, hC⟩)
    go_ret
    exact ⟨rfl, hC.below (Nat.le_refl _) (fun _ h => h.elim)⟩
  go_enter Try.func3, Try.ntmps3
  go_wp2_with fail
  refine (build_any W A l.length c l rfl (by omega) HR.out HZ.out).mono ?_
  rintro e w1 ⟨v, rfl, hB, hC⟩
  have HC := Lib.hid hC
  have HB := Lib.hid hB
  clear hC hB
  obtain ⟨f0, f1, f2, hf⟩ : ∃ f0 f1 f2, (f0, f1, f2) = Nm.check (stms l) := ⟨_, _, _, rfl⟩
  rw [← hf]
  simp only [faultV]
  have hX2 := Blk.new w1 29 #[.int .i64 f0, .int .i64 f1, .int .i64 f2]
  have hC2 := HC.out.alloc (.cells #[.int .i64 f0, .int .i64 f1, .int .i64 f2] 29)
  have hC3 := (Chg.refl (fun _ => False) w1).alloc (.cells #[.int .i64 f0, .int .i64 f1, .int .i64 f2] 29)
  have dc : (w1.alloc (.cells #[.int .i64 f0, .int .i64 f1, .int .i64 f2] 29)).cell? ⟨w1.heap.size, 0, none⟩ = some (.int .i64 f0) := by rw [hX2.cell]; rfl
  obtain ⟨w2, hw2⟩ : ∃ w2, w2 = w1.alloc (.cells #[.int .i64 f0, .int .i64 f1, .int .i64 f2] 29) := ⟨_, rfl⟩
  rw [← hw2] at hX2 hC2 hC3
  obtain ⟨g, hg⟩ : ∃ g, g = w1.heap.size := ⟨_, rfl⟩
  have HW2 := Lib.hid hw2
  have HG := Lib.hid hg
  have HC2 := Lib.hid hC2
  have HC3 := Lib.hid hC3
  clear hX2 hC2 hC3 hw2 hg
  rcases HB.out with ⟨rfl, hne⟩ | ⟨he, b, mb, nv, rfl, hT, hF⟩
  · have hz0 : (f0 != 0) = true := by rw [← hf] at hne; simpa using hne
    clear hne HB HC
    go_wp2_with fail
    rw [← HW2.out]
    go_wp2_with (go_at_call 16; refine (awake_any _).mono ?_; rintro e w' ⟨rfl, hC⟩)
    go_ret
    exact ⟨rfl, (Chg.trans HC2.out hC (fun _ _ h => h)).below (Nat.le_refl _) (fun _ h => h.elim)⟩
  · have HT := Lib.hid (hT.quiet HC3.out)
    rw [he] at hf
    obtain ⟨rfl, rfl, rfl⟩ : f0 = 0 ∧ f1 = 0 ∧ f2 = 0 := by simpa using hf
    clear hT hF he hf HB
    go_wp2
    rw [← HW2.out, ← HG.out]
    clear HW2 HG HC HC3 dc
    go_loopw [5] (fun i wr => ∃ j : Nat, j ≤ l.length ∧ i = .int .i64 j ∧ Hid (Chg (fun _ => False) w2 wr)) (fun i _ => l.length - (intOf i).toNat)
    case atStart => exact ⟨0, Nat.zero_le _, rfl, Chg.refl _ _⟩
    case round =>
      obtain ⟨j, hj, rfl, hCC⟩ := hrel
      by_cases hlt : j < l.length
      · obtain ⟨xb, o, hA, had, hc⟩ := stm_at (HR.out.chg (Chg.trans HC2.out hCC.out (fun _ _ h => h)) (Nat.le_refl _) (fun _ h => h.elim)) hlt
        subst hA
        have hget : Hid ((stms l)[j]? = some l[j].s) := by show (stms l)[j]? = some l[j].s; simp [stms, hlt]
        obtain ⟨x, hx⟩ : ∃ x, x = l[j] := ⟨_, rfl⟩
        rw [← hx] at hc hget
        have HS := Lib.hid (Nat.lt_of_lt_of_le had (Nat.le_trans HC2.out.size hCC.out.size))
        obtain ⟨c0, c1, c2, c3, c4, c5, c6, c7, c8, c9, c10, c11⟩ := stm_cells hc
        clear hc had hx c2 c3 c4 c5 c6 c7 c8 c9 c10 c11
        by_cases h6 : x.s.kind = 6
        · have k6 : (x.s.kind == 6) = true := by simpa using h6
          have d6 : decide (x.s.kind = 6) = true := by simpa using h6
          clear h6 c1
          go_wp2
          go_roundw
          case rel => exact ⟨j + 1, by omega, by go_num, hCC⟩
          case measure => simp [intOf]; omega
        have k6 : (x.s.kind == 6) = false := by simpa using h6
        by_cases h8 : x.s.kind = 8
        · have k8 : (x.s.kind == 8) = true := by simpa using h8
          clear h6 h8 c1
          go_wp2
          go_roundw
          case rel => exact ⟨j + 1, by omega, by go_num, hCC⟩
          case measure => simp [intOf]; omega
        have k8 : (x.s.kind == 8) = false := by simpa using h8
        have hnm : Nm.isNamed x.s.kind = true := by unfold Nm.isNamed; simp; exact ⟨h6, h8⟩
        have HK := Lib.hid (Nm.fine_known HT.out.fine hget.out)
        have HN := Lib.hid (Nm.namesOf_at _ _ _ hget.out hnm)
        have HFi := Lib.hid (Nm.fine_find HT.out.fine hget.out hnm)
        have hlt2 := Nm.ahead_lt hget.out
        have hxz : Hid (x.s.name.size ≤ maxLen) := HT.out.sizes x.s (List.mem_of_getElem? hget.out)
        have hcnt : Hid (cntOf (stms l) x.s.kind = (Nm.ahead (stms l) x.s.kind : Int)) := by show cntOf (stms l) x.s.kind = _; unfold cntOf; rw [HK.out]; rfl
        obtain ⟨m, hm⟩ : ∃ m, m = Nm.ahead ((stms l).take j) x.s.kind := ⟨_, rfl⟩
        obtain ⟨q, hq⟩ : ∃ q, q = Nm.ahead (stms l) x.s.kind := ⟨_, rfl⟩
        have hmq : m < q := by rw [hm, hq]; exact hlt2
        have HM := Lib.hid hm
        have HQ := Lib.hid hq
        have hd : decide ((m : Int) < 0) = false := by simp
        have hd2 : decide ((q : Int) ≤ (m : Int)) = false := by simp; omega
        have hd3 : decide (q ≤ m) = false := by simp; omega
        have hqm : ¬ q ≤ m := by omega
        have kk : (x.s.kind != x.s.kind) = false := by simp
        have ss : (x.s.name.toList == x.s.name.toList) = true := str_same _
        have ss2 : (x.s.name.toList != x.s.name.toList) = false := by simp
        clear hm hq hlt2 hnm h6 h8
        have HT2 := Lib.hid (HT.out.quiet hCC.out)
        go_wp2_with fail
        refine (find_yes _ b mb nv (stms l) x.s.name hxz.out HT2.out HFi.out hget.out).mono ?_
        rintro e w3 ⟨rfl, hC⟩
        rw [← HM.out]
        have e0 : w3.cell? ⟨xb, o + j * 12, none⟩ = some (.int .i64 x.s.kind) := by rw [← c0]; exact hC.cell HS.out (fun h => h)
        have e1 : w3.cell? ⟨xb, o + j * 12 + 1, none⟩ = some (.string x.s.name) := by rw [← c1]; exact hC.cell HS.out (fun h => h)
        have HCC := Lib.hid (Chg.trans hCC.out hC (fun _ _ h => h))
        have HT3 := Lib.hid (HT2.out.quiet hC)
        clear hC c0 c1 HS
        go_wp2_with fail
        have HCV : Hid (Value.int .i64 (cntOf (stms l) x.s.kind) = .int .i64 (q : Int)) := by show Value.int .i64 (cntOf (stms l) x.s.kind) = .int .i64 (q : Int); rw [hcnt.out, ← HQ.out]
        have HQC : Hid (∀ k, Calls Try.prog 19 #[.pointer (some ⟨b, 0, none⟩), .int .i64 x.s.kind] (w3.drewN k) fun e w' => e = .returned (.int .i64 (q : Int)) ∧ w' = w3.drewN k) := fun k =>
          (count_any _ b mb nv (stms l) x.s.kind (HT3.out.quiet ((Chg.refl _ _).drewN _))).mono fun _ _ h => ⟨h.1.trans (ret_val HCV.out), h.2.symm⟩
        have HQN : Hid (∀ k, Calls Try.prog 20 #[.pointer (some ⟨b, 0, none⟩), .int .i64 x.s.kind, .int .i64 (m : Int)] (w3.drewN k) fun e w' => e = .returned (.string x.s.name) ∧ w' = w3.drewN k) := fun k =>
          (name_in _ b mb nv (stms l) x.s.kind m x.s.name (HT3.out.quiet ((Chg.refl _ _).drewN _)) HK.out (by rw [HM.out]; exact HN.out)).mono fun _ _ h => ⟨h.1, h.2.symm⟩
        go_big_quiet ((first | (go_at_call 19; exact Calls.quiet_of_same (HQC.out _)) | (go_at_call 20; exact Calls.quiet_of_same (HQN.out _))))
        have HE := Lib.hid (HCC.out.drewN nq)
        obtain ⟨w4, hw4⟩ : ∃ w4, w4 = w3.drewN nq := ⟨_, rfl⟩
        rw [← hw4] at HE ⊢
        clear hw4 HQC HQN HCC HT3 e0 e1
        go_wp2
        go_roundw
        case rel => exact ⟨j + 1, by omega, by go_num, HE⟩
        case measure => simp [intOf]; omega
      · have HCC := Lib.hid (Chg.trans HC2.out hCC.out (fun _ _ h => h))
        go_wp2_with (go_at_call 16; refine (awake_any _).mono ?_; rintro e w' ⟨rfl, hC⟩)
        go_ret
        exact ⟨rfl, (Chg.trans HCC.out hC (fun _ _ h => h)).below (Nat.le_refl _) (fun _ h => h.elim)⟩
end Go.Proofs.Ytpppgnphblbbcaa
