/- The law of which tables there are: its walk. -/
import Derived.Test.YtpppgnphblbbcaaNmLaws
namespace Go.Proofs.Ytpppgnphblbbcaa
open Go.RowKit

theorem fine_cnt {l : List Nm.Stm} (h : Nm.Fine l) (k : Int) : cntOf l k = (Nm.ahead l k : Int) := by
  unfold cntOf
  cases hk : Nm.known k with
  | true => rfl
  | false => rw [Nm.fine_unknown h hk]; rfl

set_option maxRecDepth 100000 in
set_option maxHeartbeats 8000000 in
theorem law_finds (W : World) (A : Option Addr) (c : Nat) (l : List StmC) (name : ByteArray) (k : Int) (hsz : name.size ≤ maxLen) (hr : Rd W W.heap.size A (cellsOf l)) (hz : ∀ x ∈ l, x.s.name.size ≤ maxLen) :
    Calls Try.prog 5 #[.slice A l.length c, .string name, .int .i64 k] W fun e W' => e = .returned (.bool true) ∧ Below W.heap.size W W' := by
  have HR := Lib.hid hr
  have HZ := Lib.hid hz
  have HSZ := Lib.hid hsz
  clear hr hz hsz
  by_cases h80 : 80 < l.length
  · go_enter Try.func5, Try.ntmps5
    go_wp2_with (go_at_call 16; refine (awake_any _).mono ?_; rintro e w' ⟨rfl, hC⟩)
    go_ret
    exact ⟨rfl, hC.below (Nat.le_refl _) (fun _ h => h.elim)⟩
  go_enter Try.func5, Try.ntmps5
  go_wp2_with fail
  refine (build_any W A l.length c l rfl (by omega) HR.out HZ.out).mono ?_
  rintro e w1 ⟨v, rfl, hB, hC⟩
  have HC := Lib.hid hC
  have HB := Lib.hid hB
  clear hC hB
  obtain ⟨f0, f1, f2, hf⟩ : ∃ f0 f1 f2, (f0, f1, f2) = Nm.check (stms l) := ⟨_, _, _, rfl⟩
  rw [← hf]
  simp only [faultV]
  have HF0 := Lib.hid hf
  have hX2 := Blk.new w1 29 #[.int .i64 f0, .int .i64 f1, .int .i64 f2]
  have hC2 := HC.out.alloc (.cells #[.int .i64 f0, .int .i64 f1, .int .i64 f2] 29)
  have hC3 := (Chg.refl (fun _ => False) w1).alloc (.cells #[.int .i64 f0, .int .i64 f1, .int .i64 f2] 29)
  obtain ⟨w2, hw2⟩ : ∃ w2, w2 = w1.alloc (.cells #[.int .i64 f0, .int .i64 f1, .int .i64 f2] 29) := ⟨_, rfl⟩
  rw [← hw2] at hX2 hC2 hC3
  obtain ⟨g, hg⟩ : ∃ g, g = w1.heap.size := ⟨_, rfl⟩
  have HW2 := Lib.hid hw2
  have HG := Lib.hid hg
  rw [← hg] at hX2
  have HX2 := Lib.hid hX2
  have HC2 := Lib.hid hC2
  have HC3 := Lib.hid hC3
  clear hX2 hC2 hC3 hw2 hg hf
  have emp : ((⟨#[]⟩ : ByteArray).toList == (⟨#[]⟩ : ByteArray).toList) = true := str_same _
  have r0 : (f0 == f0) = true := by simp
  have r1 : (f1 == f1) = true := by simp
  have r2 : (f2 == f2) = true := by simp
  rcases HB.out with ⟨rfl, hne⟩ | ⟨he, b, mb, nv, rfl, hT, hF⟩
  · have hz0 : (f0 == 0) = false := by rw [← HF0.out] at hne; simpa using hne
    clear hne HB HC
    go_wp2_with fail
    rw [← HW2.out, ← HG.out]
    clear HC3 HW2 HG
    refine (refCheck_any w2 A l.length c l rfl (by omega) ((HR.out.chg HC2.out (Nat.le_refl _) (fun _ h => h.elim)).more HC2.out.size)).mono ?_
    rintro e w3 ⟨rfl, hC⟩
    rw [← HF0.out]
    simp only [faultV]
    have hY := Blk.new w3 29 #[.int .i64 f0, .int .i64 f1, .int .i64 f2]
    have hXX := (HX2.out.chg hC (fun h => h)).alloc (.cells #[.int .i64 f0, .int .i64 f1, .int .i64 f2] 29)
    have x0 : (w3.alloc (.cells #[.int .i64 f0, .int .i64 f1, .int .i64 f2] 29)).cell? ⟨g, 0, none⟩ = some (.int .i64 f0) := by rw [hXX.cell]; rfl
    have x1 : (w3.alloc (.cells #[.int .i64 f0, .int .i64 f1, .int .i64 f2] 29)).cell? ⟨g, 1, none⟩ = some (.int .i64 f1) := by rw [hXX.cell]; rfl
    have x2 : (w3.alloc (.cells #[.int .i64 f0, .int .i64 f1, .int .i64 f2] 29)).cell? ⟨g, 2, none⟩ = some (.int .i64 f2) := by rw [hXX.cell]; rfl
    have y0 : (w3.alloc (.cells #[.int .i64 f0, .int .i64 f1, .int .i64 f2] 29)).cell? ⟨w3.heap.size, 0, none⟩ = some (.int .i64 f0) := by rw [hY.cell]; rfl
    have y1 : (w3.alloc (.cells #[.int .i64 f0, .int .i64 f1, .int .i64 f2] 29)).cell? ⟨w3.heap.size, 1, none⟩ = some (.int .i64 f1) := by rw [hY.cell]; rfl
    have y2 : (w3.alloc (.cells #[.int .i64 f0, .int .i64 f1, .int .i64 f2] 29)).cell? ⟨w3.heap.size, 2, none⟩ = some (.int .i64 f2) := by rw [hY.cell]; rfl
    have HC4 := Lib.hid ((Chg.trans HC2.out hC (fun _ _ h => h)).alloc (.cells #[.int .i64 f0, .int .i64 f1, .int .i64 f2] 29))
    clear hY hXX hC
    go_wp2_with fail
    refine (find_nil _ name).mono ?_
    rintro e w4 ⟨rfl, hC5⟩
    have HC5 := Lib.hid (Chg.trans HC4.out hC5 (fun _ _ h => h))
    clear hC5 x0 x1 x2 y0 y1 y2 HC4
    go_wp2_with fail
    refine (need_nil _ name k).mono ?_
    rintro e w5 ⟨rfl, hC6⟩
    have HC6 := Lib.hid (Chg.trans HC5.out hC6 (fun _ _ h => h))
    clear hC6 HC5
    simp only [needV]
    go_wp2_with (first | (go_at_call 16; refine (awake_any _).mono ?_; rintro e w' ⟨rfl, hC⟩) | (go_at_call 19; refine (count_nil _ _).mono ?_; rintro e w' ⟨rfl, rfl⟩) | (go_at_call 20; refine (name_nil _ _ _).mono ?_; rintro e w' ⟨rfl, rfl⟩))
    go_ret
    exact ⟨rfl, (Chg.trans HC6.out hC (fun _ _ h => h)).below (Nat.le_refl _) (fun _ h => h.elim)⟩
  · have HT0 := Lib.hid (hT.quiet HC3.out)
    have hzz : f0 = 0 := by rw [← HF0.out] at he; injection he
    subst hzz
    clear hT hF he HB HC
    go_wp2_with fail
    rw [← HW2.out, ← HG.out]
    clear HC3 HW2 HG
    refine (refCheck_any w2 A l.length c l rfl (by omega) ((HR.out.chg HC2.out (Nat.le_refl _) (fun _ h => h.elim)).more HC2.out.size)).mono ?_
    rintro e w3 ⟨rfl, hC⟩
    rw [← HF0.out]
    simp only [faultV]
    have hY := Blk.new w3 29 #[.int .i64 0, .int .i64 f1, .int .i64 f2]
    have hXX := (HX2.out.chg hC (fun h => h)).alloc (.cells #[.int .i64 0, .int .i64 f1, .int .i64 f2] 29)
    have x0 : (w3.alloc (.cells #[.int .i64 0, .int .i64 f1, .int .i64 f2] 29)).cell? ⟨g, 0, none⟩ = some (.int .i64 0) := by rw [hXX.cell]; rfl
    have x1 : (w3.alloc (.cells #[.int .i64 0, .int .i64 f1, .int .i64 f2] 29)).cell? ⟨g, 1, none⟩ = some (.int .i64 f1) := by rw [hXX.cell]; rfl
    have x2 : (w3.alloc (.cells #[.int .i64 0, .int .i64 f1, .int .i64 f2] 29)).cell? ⟨g, 2, none⟩ = some (.int .i64 f2) := by rw [hXX.cell]; rfl
    have y0 : (w3.alloc (.cells #[.int .i64 0, .int .i64 f1, .int .i64 f2] 29)).cell? ⟨w3.heap.size, 0, none⟩ = some (.int .i64 0) := by rw [hY.cell]; rfl
    have y1 : (w3.alloc (.cells #[.int .i64 0, .int .i64 f1, .int .i64 f2] 29)).cell? ⟨w3.heap.size, 1, none⟩ = some (.int .i64 f1) := by rw [hY.cell]; rfl
    have y2 : (w3.alloc (.cells #[.int .i64 0, .int .i64 f1, .int .i64 f2] 29)).cell? ⟨w3.heap.size, 2, none⟩ = some (.int .i64 f2) := by rw [hY.cell]; rfl
    have HC7 := Lib.hid hC
    have HC4 := Lib.hid ((Chg.trans HC2.out hC (fun _ _ h => h)).alloc (.cells #[.int .i64 0, .int .i64 f1, .int .i64 f2] 29))
    clear hY hXX hC
    go_wp2_with fail
    have HT := Lib.hid ((HT0.out.quiet HC7.out).quiet ((Chg.refl _ w3).alloc (.cells #[.int .i64 0, .int .i64 f1, .int .i64 f2] 29)))
    obtain ⟨w4, hw4⟩ : ∃ w4, w4 = w3.alloc (.cells #[.int .i64 0, .int .i64 f1, .int .i64 f2] 29) := ⟨_, rfl⟩
    rw [← hw4] at HT HC4 ⊢
    clear x0 x1 x2 y0 y1 y2 hw4 HC7 HT0 HX2 HC2
    obtain ⟨p, q, hpq⟩ : ∃ p q, Nm.need (stms l) name k = (p, q) := ⟨_, _, rfl⟩
    have HN := Lib.hid hpq
    clear hpq
    have htk : Hid ((stms l).take l.length = stms l) := List.take_of_length_le (by simp [stms])
    obtain ⟨n, hn⟩ : ∃ n, n = Nm.ahead (stms l) k := ⟨_, rfl⟩
    have HNn := Lib.hid hn
    clear hn
    have HCN : Hid (cntOf (stms l) k = (n : Int)) := by show cntOf (stms l) k = (n : Int); rw [fine_cnt HT.out.fine, HNn.out]
    have q0 : (p == p) = true := by simp
    have q1 : (q == q) = true := by simp
    have q2 : ((n : Int) == (n : Int)) = true := by simp
    by_cases hi : Nm.findI (stms l) name < 0
    · have HI := Lib.hid hi
      clear hi
      refine (find_no _ b mb nv (stms l) name HSZ.out HT.out HI.out).mono ?_
      rintro e w5 ⟨rfl, hC5⟩
      have HC5 := Lib.hid (Chg.trans HC4.out hC5 (fun _ _ h => h))
      have HT5 := Lib.hid (HT.out.quiet hC5)
      clear hC5 HC4 HT
      go_wp2_with fail
      refine (need_any _ b mb nv (stms l) name k HSZ.out HT5.out).mono ?_
      rintro e w6 ⟨rfl, hC6⟩
      have HC6 := Lib.hid (Chg.trans HC5.out hC6 (fun _ _ h => h))
      have HT6 := Lib.hid (HT5.out.quiet hC6)
      clear hC6 HC5 HT5
      rw [HN.out]
      simp only [needV]
      go_wp2_with fail
      refine (refFind_any _ A l.length c l l.length name (Nat.le_refl _) rfl (by omega) ((HR.out.chg HC6.out (Nat.le_refl _) (fun _ h => h.elim)).more HC6.out.size)).mono ?_
      rintro e w7 ⟨rfl, hC7⟩
      have HC7 := Lib.hid (Chg.trans HC6.out hC7 (fun _ _ h => h))
      have HT7 := Lib.hid (HT6.out.quiet hC7)
      clear hC7 HC6 HT6
      rw [htk.out]
      obtain ⟨fi, hfi⟩ : ∃ fi, fi = Nm.findI (stms l) name := ⟨_, rfl⟩
      rw [← hfi]
      have hfn : fi < 0 := by rw [hfi]; exact HI.out
      have hfd : decide ((0 : Int) ≤ fi) = false := by simpa using hfn
      clear hfi
      go_wp2_with fail
      refine (refNeed_any _ A l.length c l name k rfl (by omega) ((HR.out.chg HC7.out (Nat.le_refl _) (fun _ h => h.elim)).more HC7.out.size)).mono ?_
      rintro e w8 ⟨rfl, hC8⟩
      have HC8 := Lib.hid (Chg.trans HC7.out hC8 (fun _ _ h => h))
      have HT8 := Lib.hid (HT7.out.quiet hC8)
      clear hC8 HC7 HT7
      rw [HN.out]
      simp only [needV]
      go_wp2_with (first | (go_at_call 16; refine (awake_any _).mono ?_; rintro e w' ⟨rfl, hC⟩) | (go_at_call 19; refine (count_any _ b mb nv (stms l) k HT8.out).mono ?_; rintro e w' ⟨rfl, rfl⟩; rw [HCN.out]) | (go_at_call 24; refine (refAhead_any _ W.heap.size _ _ _ l l.length k (Nat.le_refl _) rfl (by omega) (HR.out.chg HC8.out (Nat.le_refl _) (fun _ h => h.elim))).mono ?_; rintro e w' ⟨rfl, rfl⟩; rw [htk.out, ← HNn.out]))
      go_ret
      exact ⟨rfl, (Chg.trans HC8.out hC (fun _ _ h => h)).below (Nat.le_refl _) (fun _ h => h.elim)⟩
    · obtain ⟨i, hii⟩ : ∃ i : Nat, Nm.findI (stms l) name = (i : Int) := ⟨(Nm.findI (stms l) name).toNat, by omega⟩
      obtain ⟨x, hx, _, _⟩ := Nm.findI_get hii
      have HI := Lib.hid hii
      have HX := Lib.hid hx
      have hil : i < l.length := by have := (List.getElem?_eq_some_iff.1 hx).1; simpa [stms] using this
      have hxe : l[i].s = x := by simp [stms, hil] at hx; exact hx
      have HXE := Lib.hid hxe
      clear hi hii hx hxe
      obtain ⟨m, hm⟩ : ∃ m, m = Nm.ahead ((stms l).take i) x.kind := ⟨_, rfl⟩
      have HM := Lib.hid hm
      clear hm
      refine (find_yes _ b mb nv (stms l) name HSZ.out HT.out HI.out HX.out).mono ?_
      rintro e w5 ⟨rfl, hC5⟩
      have HC5 := Lib.hid (Chg.trans HC4.out hC5 (fun _ _ h => h))
      have HT5 := Lib.hid (HT.out.quiet hC5)
      clear hC5 HC4 HT
      rw [← HM.out]
      go_wp2_with fail
      refine (need_any _ b mb nv (stms l) name k HSZ.out HT5.out).mono ?_
      rintro e w6 ⟨rfl, hC6⟩
      have HC6 := Lib.hid (Chg.trans HC5.out hC6 (fun _ _ h => h))
      have HT6 := Lib.hid (HT5.out.quiet hC6)
      clear hC6 HC5 HT5
      rw [HN.out]
      simp only [needV]
      go_wp2_with fail
      refine (refFind_any _ A l.length c l l.length name (Nat.le_refl _) rfl (by omega) ((HR.out.chg HC6.out (Nat.le_refl _) (fun _ h => h.elim)).more HC6.out.size)).mono ?_
      rintro e w7 ⟨rfl, hC7⟩
      have HC7 := Lib.hid (Chg.trans HC6.out hC7 (fun _ _ h => h))
      have HT7 := Lib.hid (HT6.out.quiet hC7)
      clear hC7 HC6 HT6
      rw [htk.out, HI.out]
      have hL := HR.out.chg HC7.out (Nat.le_refl _) (fun _ h => h.elim)
      have HL := Lib.hid hL
      obtain ⟨xb, o, hA, _, hc⟩ := stm_at hL hil
      subst hA
      have c0 : w7.cell? ⟨xb, o + i * 12, none⟩ = some (.int .i64 x.kind) := by rw [← HXE.out]; exact hc 0 (by omega)
      have e0 : (x.kind != x.kind) = false := by simp
      have e1 : ((m : Int) != (m : Int)) = false := by simp
      have e2 : (m != m) = false := by simp
      clear hL hc
      go_wp2_with (go_at_call 24; refine (refAhead_any _ W.heap.size _ _ _ l i x.kind (by omega) rfl (by omega) (by exact HL.out)).mono ?_; rintro e w' ⟨rfl, rfl⟩; rw [← HM.out])
      refine (refNeed_any _ _ l.length c l name k rfl (by omega) ((HR.out.chg HC7.out (Nat.le_refl _) (fun _ h => h.elim)).more HC7.out.size)).mono ?_
      rintro e w8 ⟨rfl, hC8⟩
      have HC8 := Lib.hid (Chg.trans HC7.out hC8 (fun _ _ h => h))
      have HT8 := Lib.hid (HT7.out.quiet hC8)
      clear hC8 HC7 HT7 c0
      rw [HN.out]
      simp only [needV]
      go_wp2_with (first | (go_at_call 16; refine (awake_any _).mono ?_; rintro e w' ⟨rfl, hC⟩) | (go_at_call 19; refine (count_any _ b mb nv (stms l) k HT8.out).mono ?_; rintro e w' ⟨rfl, rfl⟩; rw [HCN.out]) | (go_at_call 24; refine (refAhead_any _ W.heap.size _ _ _ l l.length k (Nat.le_refl _) rfl (by omega) (HR.out.chg HC8.out (Nat.le_refl _) (fun _ h => h.elim))).mono ?_; rintro e w' ⟨rfl, rfl⟩; rw [htk.out, ← HNn.out]))
      go_ret
      exact ⟨rfl, (Chg.trans HC8.out hC (fun _ _ h => h)).below (Nat.le_refl _) (fun _ h => h.elim)⟩
end Go.Proofs.Ytpppgnphblbbcaa
