/- The laws of layer 4: their walks. -/
import Derived.Test.YtpppgnphblbbcaaTrAwake
import Derived.BigQuiet
namespace Go.Proofs.Ytpppgnphblbbcaa
open Go.RowKit

set_option maxRecDepth 100000 in
set_option maxHeartbeats 4000000 in
theorem law_parts_out (W : World) (A : Option Addr) (c : Nat) (f : List Nm.Item) (e : Int) (hl : f.length ≤ maxLen) (hr : Rd W W.heap.size A (cellsI f)) (h : ¬ (Tr.check (sg f) f.length = 0 ∧ 0 ≤ e ∧ e < f.length)) :
    Calls Try.prog 8 #[.slice A f.length c, .int .i64 e] W fun e W' => e = .returned (.bool true) ∧ Below W.heap.size W W' := by
  have HR := Lib.hid hr
  clear hr
  have hno := Lib.hid h
  have HC := Lib.hid (Chg.refl (fun _ => False) W)
  obtain ⟨v, hv⟩ : ∃ v, v = Tr.check (sg f) f.length := ⟨_, rfl⟩
  rw [← hv] at h
  replace hv := Lib.hid hv
  by_cases h0 : v = 0
  · have hz0 : (v == 0) = true := by rw [beq_iff_eq]; exact h0
    have hz : (v != 0) = false := by simpa using h0
    by_cases h1 : e < 0
    · have d1 : decide (e < 0) = true := by rw [decide_eq_true_iff]; omega
      clear h h0 h1
      go_enter Try.func8, Try.ntmps8
      go_wp2_with (first | (go_at_call 35; refine Calls.mono (start_none _ A c f hl (by exact HR.out.later HC.out (fun _ h => h.elim)) e hno.out) ?_; rintro e w' ⟨rfl, h⟩; have HC := Lib.hid (Chg.trans HC.out h (fun _ _ h => h)); clear h) | (go_at_call 36; refine Calls.mono (kids_none _ A c f hl (by exact HR.out.later HC.out (fun _ h => h.elim)) e hno.out) ?_; rintro e w' ⟨A2, c2, rfl, -, -, h, -⟩; have HC := Lib.hid (Chg.trans HC.out h (fun _ _ h => h)); clear h) | (go_at_call 31; refine Calls.mono (refCheck_any' _ A c f hl (by exact HR.out.later HC.out (fun _ h => h.elim))) ?_; rintro e w' ⟨rfl, rfl⟩; rw [← hv.out]) | (go_at_call 34; refine Calls.mono (tawake_any _) ?_; rintro e w' ⟨rfl, h⟩; have HC := Lib.hid (Chg.trans HC.out h (fun _ _ h => h)); clear h))
      go_ret
      exact ⟨rfl, HC.out.below (Nat.le_refl _) (fun _ h => h.elim)⟩
    have d1 : decide (e < 0) = false := by rw [decide_eq_false_iff_not]; omega
    have d3 : decide ((f.length : Int) ≤ e) = true := by rw [decide_eq_true_iff]; omega
    clear h h0 h1
    go_enter Try.func8, Try.ntmps8
    go_wp2_with (first | (go_at_call 35; refine Calls.mono (start_none _ A c f hl (by exact HR.out.later HC.out (fun _ h => h.elim)) e hno.out) ?_; rintro e w' ⟨rfl, h⟩; have HC := Lib.hid (Chg.trans HC.out h (fun _ _ h => h)); clear h) | (go_at_call 36; refine Calls.mono (kids_none _ A c f hl (by exact HR.out.later HC.out (fun _ h => h.elim)) e hno.out) ?_; rintro e w' ⟨A2, c2, rfl, -, -, h, -⟩; have HC := Lib.hid (Chg.trans HC.out h (fun _ _ h => h)); clear h) | (go_at_call 31; refine Calls.mono (refCheck_any' _ A c f hl (by exact HR.out.later HC.out (fun _ h => h.elim))) ?_; rintro e w' ⟨rfl, rfl⟩; rw [← hv.out]) | (go_at_call 34; refine Calls.mono (tawake_any _) ?_; rintro e w' ⟨rfl, h⟩; have HC := Lib.hid (Chg.trans HC.out h (fun _ _ h => h)); clear h))
    go_ret
    exact ⟨rfl, HC.out.below (Nat.le_refl _) (fun _ h => h.elim)⟩
  · have hz0 : (v == 0) = false := by rw [beq_eq_false_iff_ne]; exact h0
    have hz : (v != 0) = true := by simpa using h0
    clear h h0
    go_enter Try.func8, Try.ntmps8
    go_wp2_with (first | (go_at_call 35; refine Calls.mono (start_none _ A c f hl (by exact HR.out.later HC.out (fun _ h => h.elim)) e hno.out) ?_; rintro e w' ⟨rfl, h⟩; have HC := Lib.hid (Chg.trans HC.out h (fun _ _ h => h)); clear h) | (go_at_call 36; refine Calls.mono (kids_none _ A c f hl (by exact HR.out.later HC.out (fun _ h => h.elim)) e hno.out) ?_; rintro e w' ⟨A2, c2, rfl, -, -, h, -⟩; have HC := Lib.hid (Chg.trans HC.out h (fun _ _ h => h)); clear h) | (go_at_call 31; refine Calls.mono (refCheck_any' _ A c f hl (by exact HR.out.later HC.out (fun _ h => h.elim))) ?_; rintro e w' ⟨rfl, rfl⟩; rw [← hv.out]) | (go_at_call 34; refine Calls.mono (tawake_any _) ?_; rintro e w' ⟨rfl, h⟩; have HC := Lib.hid (Chg.trans HC.out h (fun _ _ h => h)); clear h))
    go_ret
    exact ⟨rfl, HC.out.below (Nat.le_refl _) (fun _ h => h.elim)⟩

set_option maxRecDepth 100000 in
set_option maxHeartbeats 4000000 in
theorem law_parts_in (W : World) (A : Option Addr) (c : Nat) (f : List Nm.Item) (e : Nat) (hl : f.length ≤ maxLen) (hr : Rd W W.heap.size A (cellsI f)) (h0 : Tr.check (sg f) f.length = 0) (he : e < f.length) :
    Calls Try.prog 8 #[.slice A f.length c, .int .i64 e] W fun e W' => e = .returned (.bool true) ∧ Below W.heap.size W W' := by
  obtain ⟨hz, h64, hbg⟩ := Tr.check_zero.1 h0
  obtain ⟨t, ht⟩ := (Tr.form_iff _).1 hbg
  obtain ⟨s, p, hs, _, hw⟩ := (Tr.form_wf ht).find e (Nat.zero_le _) he
  have KA := Lib.hid (fun (w : World) (h : Chg (fun _ => False) W w) => start_ok w A c f hl (hr.later h (fun _ h => h.elim)) e he h0)
  have KK := Lib.hid (fun (w : World) (h : Chg (fun _ => False) W w) => kids_ok w A c f hl (hr.later h (fun _ h => h.elim)) e he h0)
  have RC := Lib.hid (fun (w : World) (h : Chg (fun _ => False) W w) => refCheck_any' w A c f hl (hr.later h (fun _ h => h.elim)))
  have RK := Lib.hid (fun (w : World) (h : Chg (fun _ => False) W w) => refKids_any w A c f e he (wf_arity hw) (by omega) (hr.later h (fun _ h => h.elim)))
  have RB := Lib.hid (fun (w : World) (h : Chg (fun _ => False) W w) => refBegin_any w A c f e he (by omega) (hr.later h (fun _ h => h.elim)))
  rw [h0] at RC
  obtain ⟨v, hv⟩ : ∃ v, v = Tr.beg (sg f) 1 (e + 1) := ⟨_, rfl⟩
  rw [← hv] at KA RB
  obtain ⟨ks, hks⟩ : ∃ ks, ks = Tr.kidsB (sg f) e := ⟨_, rfl⟩
  rw [← hks] at KK RK
  have d1 : decide ((e : Int) < 0) = false := by rw [decide_eq_false_iff_not]; omega
  have d3 : decide ((f.length : Int) ≤ (e : Int)) = false := by rw [decide_eq_false_iff_not]; omega
  have b1 : (v == v) = true := by simp
  have b2 : (v != v) = false := by simp
  have HC := Lib.hid (Chg.refl (fun _ => False) W)
  clear hv hks hs hw ht h0 hbg hr
  go_enter Try.func8, Try.ntmps8
  go_wp2_with fail
  refine Calls.mono (KA.out _ HC.out) ?_
  rintro e1 w1 ⟨rfl, h⟩
  have HC := Lib.hid (Chg.trans HC.out h (fun _ _ h => h)); clear h
  go_wp2_with fail
  refine Calls.mono (KK.out _ HC.out) ?_
  rintro e2 w2 ⟨A1, c1, rfl, hkl, hrd1, h, -⟩
  have HC := Lib.hid (Chg.trans HC.out h (fun _ _ h => h)); clear h
  replace hrd1 := Lib.hid hrd1
  go_wp2_with fail
  refine Calls.mono (RC.out _ HC.out) ?_
  rintro e3 w3 ⟨rfl, rfl⟩
  go_wp2_with fail
  refine Calls.mono (RK.out _ HC.out) ?_
  rintro e4 w4 ⟨A2, c2, rfl, -, hrd2, h, -⟩
  have hrd1 := Lib.hid (hrd1.out.later h (fun _ h => h.elim))
  have HC := Lib.hid (Chg.trans HC.out h (fun _ _ h => h)); clear h
  replace hrd2 := Lib.hid hrd2
  unfold maxLen at hkl
  have hn0 : ((ks.length : Int) == (ks.length : Int)) = true := by simp
  have hn1 : ((ks.length : Int) != (ks.length : Int)) = false := by simp
  go_wp2_with fail
  refine Calls.mono (RB.out _ HC.out) ?_
  rintro e5 w5 ⟨rfl, rfl⟩
  go_wp2_with fail
  go_loopw [8] (fun i wr => ∃ j : Nat, j ≤ ks.length ∧ i = .int .i64 j ∧ Hid (Chg (fun _ => False) w4 wr)) (fun i _ => ks.length - (intOf i).toNat)
  case atStart => exact ⟨0, Nat.zero_le _, rfl, Chg.refl _ _⟩
  case round =>
    obtain ⟨j, hj, rfl, hE⟩ := hrel
    by_cases hlt : j < ks.length
    · obtain ⟨b1, o1, hA1, hb1, hc1⟩ := (hrd1.out.chg hE.out (Nat.le_refl _) (fun _ h => h.elim)).plain (by simp [intsV]; omega)
      obtain ⟨b2, o2, hA2, hb2, hc2⟩ := (hrd2.out.chg hE.out (Nat.le_refl _) (fun _ h => h.elim)).plain (by simp [intsV]; omega)
      obtain ⟨x, hx⟩ : ∃ x, ks[j]? = some x := ⟨_, List.getElem?_eq_getElem hlt⟩
      have k1 := hc1 j (.int .i64 x) (by simp [intsV, hx])
      have k2 := hc2 j (.int .i64 x) (by simp [intsV, hx])
      subst hA1
      subst hA2
      have bx : (x == x) = true := by simp
      have bx2 : (x != x) = false := by simp
      clear hc1 hc2 hx
      go_wp2_with fail
      go_quiet (fail)
      have HE := Lib.hid (hE.out.drewN nq)
      go_wp2
      go_roundw
      case rel => exact ⟨j + 1, by omega, by go_num, HE⟩
      case measure => (simp [intOf] <;> omega)
    · obtain rfl : j = ks.length := by omega
      have HC := Lib.hid (Chg.trans HC.out hE.out (fun _ _ h => h))
      go_wp2_with (go_at_call 34; refine Calls.mono (tawake_any _) ?_; rintro e w' ⟨rfl, h⟩; have HC := Lib.hid (Chg.trans HC.out h (fun _ _ h => h)); clear h)
      go_ret
      exact ⟨rfl, HC.out.below (Nat.le_refl _) (fun _ h => h.elim)⟩
end Go.Proofs.Ytpppgnphblbbcaa
