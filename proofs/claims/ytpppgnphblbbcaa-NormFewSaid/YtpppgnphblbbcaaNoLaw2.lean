/- The walk of the law NormFew. -/
import Derived.Test.YtpppgnphblbbcaaNoNe
import Derived.Test.YtpppgnphblbbcaaNoAwake
namespace Go.Proofs.Ytpppgnphblbbcaa
open Go.RowKit

theorem stAll_inv {L : List No.Stp} (h : No.Inv L) : stAll L = true := by
  refine stAll_true fun i hi => ?_
  have hs : L[i]? = some L[i] := List.getElem?_eq_getElem hi
  rw [okAt_at hs]
  have hf := h.fits i _ hs
  unfold stOk
  rcases hf with h1 | h1 | h1 | h1
  · rw [if_neg (by omega), if_neg (by omega), decide_eq_true_iff]; exact h1
  · rw [if_pos (by omega), decide_eq_true_iff]; exact ⟨h1.2.1, h1.2.2.1⟩
  · rw [if_pos (by omega), decide_eq_true_iff]; exact h1.2
  · rw [if_neg (by omega), if_pos (by omega), Bool.and_eq_true, decide_eq_true_iff, decide_eq_true_iff]; exact ⟨⟨h1.2.1, h1.2.2.1⟩, h1.2.2.2⟩
set_option maxRecDepth 100000 in
set_option maxHeartbeats 8000000 in
theorem law_normFew (w : World) (A : Option Addr) (c : Nat) (f : List Nm.Inst) (hl : f.length ≤ maxLen) (hr : Rd w w.heap.size A (f.flatMap instV7)) (hok : ∀ x ∈ f, No.okI x) :
    Calls Try.prog 14 #[.slice A f.length c] w fun e w' => e = .returned (.bool true) ∧ Chg (fun _ => False) w w' := by
  by_cases h100 : 100 < f.length
  · clear hr hok
    unfold maxLen at hl
    go_enter Try.func14, Try.ntmps14
    go_wp2_with fail
    refine Calls.mono (awake31_any _) ?_
    rintro e w1 ⟨rfl, h⟩
    have HC := Lib.hid h
    clear h
    go_wp2
    go_ret
    exact ⟨rfl, HC.out⟩
  have HK := Lib.hid hok
  have HST := Lib.hid (steps_any w A c f (by omega) hr hok)
  clear hr hok hl
  go_enter Try.func14, Try.ntmps14
  go_wp2_with fail
  refine Calls.mono HST.out ?_
  rintro e w1 ⟨hc, ⟨h0, rfl⟩ | ⟨h0, lv, n, rfl, hn, hown⟩⟩
  · have C1 := Lib.hid hc
    clear hc h0 HST
    go_wp2_with fail
    refine Calls.mono (awake31_any _) ?_
    rintro e w2 ⟨rfl, h⟩
    have HC := Lib.hid (Chg.trans C1.out h (fun _ _ h => h))
    clear h
    go_wp2
    go_ret
    exact ⟨rfl, HC.out⟩
  have hup := up_all h0 HK.out f.length (Nat.le_refl _)
  obtain ⟨n', hn', hn1, hn2⟩ := up_end h0 HK.out
  rw [hn] at hn'
  simp only [List.cons.injEq, and_true] at hn'
  subst hn'
  have hinv := hup.inv
  have hfew := hup.few
  obtain ⟨L, hL⟩ : ∃ L, L = (No.upTo f f.length).1 := ⟨_, rfl⟩
  rw [← hL] at hinv hfew hn2 hown
  obtain ⟨A1, c1, rfl, _, _⟩ := own_slice hown
  have HR := Lib.hid (own_rdN hown)
  have HI := Lib.hid hinv
  have C1 := Lib.hid hc
  clear hL hup hn hown hinv hc HST
  go_wp2_with fail
  go_loopw [6, 7] (fun i k wr => ∃ j : Nat, j ≤ L.length ∧ i = .int .i64 j ∧ Hid (Chg (fun _ => False) w1 wr)) (fun i _ _ => L.length - (intOf i).toNat)
  case atStart => exact ⟨0, Nat.zero_le _, rfl, Chg.refl _ _⟩
  case round =>
    obtain ⟨j, hj, rfl, hC⟩ := hrel
    by_cases hlt : j < L.length
    · obtain ⟨s, hs⟩ : ∃ s, L[j]? = some s := ⟨_, List.getElem?_eq_getElem hlt⟩
      have HX := Lib.hid hs
      clear hs
      go_wp2_with fail
      go_loopw [7] (fun k wi => ∃ q : Nat, q ≤ j ∧ k = .int .i64 q ∧ Hid (Chg (fun _ => False) w1 wi)) (fun k _ => j - (intOf k).toNat)
      case atStart => exact ⟨0, Nat.zero_le _, rfl, hC⟩
      case round =>
        obtain ⟨q, hq, rfl, hCi⟩ := hrel
        by_cases hqj : q < j
        · obtain ⟨t, ht⟩ : ∃ t, L[q]? = some t := ⟨_, List.getElem?_eq_getElem (by omega)⟩
          obtain ⟨xb, o, hA, hxb, a0, a1, a2, a3, a4, a5, a6, a7, a8, a9⟩ := stp_row (HR.out.later hCi.out (fun _ h => h.elim)) HX.out
          obtain ⟨xb', o', hA', hxb', b0, b1, b2, b3, b4, b5, b6, b7, b8, b9⟩ := stp_row (HR.out.later hCi.out (fun _ h => h.elim)) ht
          rw [hA] at hA'
          injection hA' with hA'
          injection hA' with e1 e2 _
          subst e1; subst e2
          subst hA
          have hne : s ≠ t := fun e => by
            have := HI.out.once j q s HX.out (e ▸ ht)
            omega
          have hql : q < L.length := by omega
          have HT := Lib.hid ht
          have HNE := Lib.hid hne
          clear ht hne
          go_wp2_with fail
          refine wp_region_quiet_lit (by kernel_rfl) (by kernel_rfl) ?_
          repeat (go_big_quiet_step (fail))
          refine quiet_ne rfl rfl rfl rfl (HI.out.ok s (List.mem_of_getElem? HX.out)) (HI.out.ok t (List.mem_of_getElem? HT.out)) HNE.out ?_
          refine wpQuiet_nil ?_
          rintro _ ⟨nq, rfl⟩
          have C2 := Lib.hid (hCi.out.drewN nq)
          clear a0 a1 a2 a3 a4 a5 a6 a7 a8 a9 b0 b1 b2 b3 b4 b5 b6 b7 b8 b9
          go_wp2
          go_roundw
          case rel => exact ⟨q + 1, by omega, by go_num, C2⟩
          case measure => (simp [intOf] <;> omega)
        · obtain rfl : q = j := by omega
          obtain ⟨xb, o, hA, hxb, a0, a1, a2, a3, a4, a5, a6, a7, a8, a9⟩ := stp_row (HR.out.later hCi.out (fun _ h => h.elim)) HX.out
          have hf := HI.out.fits _ _ HX.out
          by_cases h15 : s.op = 15
          · obtain ⟨_, hp0, hp1, hp2⟩ : s.op = 15 ∧ 0 ≤ s.a ∧ s.a < (q : Int) ∧ No.opAt L s.a ≠ 15 := by
              rcases hf with h1 | h1 | h1 | h1
              · omega
              · exact h1
              · omega
              · omega
            obtain ⟨k, hk⟩ : ∃ k : Nat, s.a = k := ⟨s.a.toNat, by omega⟩
            obtain ⟨y, hy⟩ : ∃ y, L[k]? = some y := ⟨_, List.getElem?_eq_getElem (by omega)⟩
            obtain ⟨xb', o', hA', hxb', b0, b1, b2, b3, b4, b5, b6, b7, b8, b9⟩ := stp_row (HR.out.later hCi.out (fun _ h => h.elim)) hy
            rw [hA] at hA'
            injection hA' with hA'
            injection hA' with e1 e2 _
            subst e1; subst e2
            subst hA
            have hyo : (y.op == 15) = false := by
              rw [beq_eq_false_iff_ne]
              rw [hk, No.opAt_in (by rw [Int.toNat_natCast]; exact hy)] at hp2
              exact hp2
            have d15 : (s.op == 15) = true := by simpa using h15
            rw [hk] at a1
            have hkq : k < q := by omega
            have hkl : k < L.length := by omega
            have d1 : decide ((k : Int) < 0) = false := by rw [decide_eq_false_iff_not]; omega
            have d2 : decide ((q : Int) ≤ (k : Int)) = false := by rw [decide_eq_false_iff_not]; omega
            have d3 : decide (q ≤ k) = false := by rw [decide_eq_false_iff_not]; omega
            have HK2 := Lib.hid hk
            clear hy hf h15 hp0 hp1 hp2 hk
            go_wp2
            go_roundw
            case rel => exact ⟨q + 1, by omega, by go_num, hCi⟩
            case measure => (simp [intOf] <;> omega)
          · have d15 : (s.op == 15) = false := by simpa using h15
            subst hA
            clear hf h15
            go_wp2
            go_roundw
            case rel => exact ⟨q + 1, by omega, by go_num, hCi⟩
            case measure => (simp [intOf] <;> omega)
    · obtain rfl : j = L.length := by omega
      have K1 := nCheck_any wr A1 c1 L (by unfold maxLen; omega) (HR.out.later hC.out (fun _ h => h.elim))
      rw [stAll_inv HI.out] at K1
      replace K1 := Lib.hid K1
      have CC := Lib.hid (Chg.trans C1.out hC.out (fun _ _ h => h))
      have d1 : decide ((L.length : Int) ≤ 8 * (f.length : Int)) = true := by rw [decide_eq_true_iff]; omega
      have d2 : decide ((0 : Int) ≤ n) = true := by rw [decide_eq_true_iff]; exact hn1
      have d3 : decide (n < (L.length : Int)) = true := by rw [decide_eq_true_iff]; exact hn2
      have hL8 : L.length ≤ 800 := by omega
      clear hlt hj hC h0
      go_wp2_with fail
      refine Calls.mono K1.out ?_
      rintro e w2 ⟨rfl, h⟩
      have C2 := Lib.hid (Chg.trans CC.out h (fun _ _ h => h))
      clear h
      go_wp2_with fail
      refine Calls.mono (awake31_any _) ?_
      rintro e w3 ⟨rfl, h⟩
      have C3 := Lib.hid (Chg.trans C2.out h (fun _ _ h => h))
      clear h
      go_wp2
      go_ret
      exact ⟨rfl, C3.out⟩
end Go.Proofs.Ytpppgnphblbbcaa
