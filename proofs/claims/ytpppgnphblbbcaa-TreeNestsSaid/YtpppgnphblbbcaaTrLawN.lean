/- The laws of layer 4: their walks. -/
import Derived.Test.YtpppgnphblbbcaaTrAwake
namespace Go.Proofs.Ytpppgnphblbbcaa
open Go.RowKit

theorem sub_check (w : World) (b0 o0 c : Nat) (f : List Nm.Item) (p k : Nat) (hk : p + k ≤ f.length) (hk1 : 1 ≤ k) (hk2 : k ≤ 64) (hb : Tr.beg (sg f) 1 (p + k) = p) (hr : Rd w w.heap.size (some ⟨b0, o0, none⟩) (cellsI f)) :
    Calls Try.prog 30 #[.slice (some ⟨b0, o0 + p * 9, none⟩) k c] w fun e w' => e = .returned (.int .i64 0) ∧ Chg (fun _ => False) w w' := by
  have hl : ((f.drop p).take k).length = k := by rw [List.length_take, List.length_drop]; omega
  have hg : ∀ i, i < k → ((f.drop p).take k)[i]? = f[p + i]? := fun i hi => by
    rw [List.getElem?_take_of_lt hi, List.getElem?_drop]
  have hs : Tr.check (sg ((f.drop p).take k)) k = 0 := by
    rw [Tr.check_zero]
    refine ⟨by omega, hk2, ?_⟩
    rw [Tr.beg_congr (g := fun j => sg f (p + j)) k 1 (fun i hi => by unfold sg; rw [hg i hi])]
    exact Tr.beg_shift p k 1 (by omega) hb
  have h2 := check_any w (some ⟨b0, o0 + p * 9, none⟩) c ((f.drop p).take k) (by rw [hl]; unfold maxLen; omega) (fun _ => by
    have hlen : (cellsI f).length = f.length * 9 := flat_len itemC itemC_len f
    obtain ⟨b, o, hA, hb2, hc⟩ := hr.plain (by rw [hlen]; omega)
    injection hA with hA
    injection hA with e1 e2 _
    subst e1; subst e2
    refine ⟨_, rfl, hb2, fun j u hu => ?_⟩
    rw [add_row]
    have hj : j < k * 9 := by
      have h3 := (List.getElem?_eq_some_iff.1 hu).1
      rw [show (cellsI ((f.drop p).take k)).length = ((f.drop p).take k).length * 9 from flat_len itemC itemC_len _, hl] at h3
      exact h3
    have hq : j / 9 < k := by omega
    have hq2 : j / 9 < ((f.drop p).take k).length := by omega
    have hq3 : p + j / 9 < f.length := by omega
    have e := flat_get itemC itemC_len ((f.drop p).take k) (j / 9) (j % 9) hq2 (by omega)
    rw [show j / 9 * 9 + j % 9 = j by omega] at e
    have e2 := flat_get itemC itemC_len f (p + j / 9) (j % 9) hq3 (by omega)
    have e3 : ((f.drop p).take k)[j / 9] = f[p + j / 9] := by
      have := hg (j / 9) hq
      rw [List.getElem?_eq_getElem hq2, List.getElem?_eq_getElem hq3] at this
      injection this
    rw [show (p + j / 9) * 9 + j % 9 = p * 9 + j by omega] at e2
    have hu2 : (cellsI f)[p * 9 + j]? = some u := by
      rw [← hu]
      show (f.flatMap itemC)[p * 9 + j]? = (((f.drop p).take k).flatMap itemC)[j]?
      rw [e2, e, e3]
    have := hc (p * 9 + j) u hu2
    rwa [← Nat.add_assoc] at this)
  rw [hl, hs] at h2
  exact h2
set_option maxRecDepth 100000 in
set_option maxHeartbeats 4000000 in
theorem law_nests_out (W : World) (A : Option Addr) (c : Nat) (f : List Nm.Item) (a b : Int) (hl : f.length ≤ maxLen) (hr : Rd W W.heap.size A (cellsI f)) (h : ¬ (Tr.check (sg f) f.length = 0 ∧ 0 ≤ a ∧ a ≤ b ∧ b < f.length)) :
    Calls Try.prog 9 #[.slice A f.length c, .int .i64 a, .int .i64 b] W fun e W' => e = .returned (.bool true) ∧ Below W.heap.size W W' := by
  have HR := Lib.hid hr
  clear hr
  have HC := Lib.hid (Chg.refl (fun _ => False) W)
  obtain ⟨v, hv⟩ : ∃ v, v = Tr.check (sg f) f.length := ⟨_, rfl⟩
  rw [← hv] at h
  replace hv := Lib.hid hv
  have b1 : (v == v) = true := by simp
  by_cases h0 : v = 0
  · have hz0 : (v == 0) = true := by rw [beq_iff_eq]; exact h0
    have hz : (v != 0) = false := by simpa using h0
    by_cases h1 : a < 0
    · have d1 : decide (a < 0) = true := by rw [decide_eq_true_iff]; omega
      clear h h0 h1
      go_enter Try.func9, Try.ntmps9
      go_wp2_with (first | (go_at_call 30; refine Calls.mono (check_any _ A c f hl (by exact HR.out.later HC.out (fun _ h => h.elim))) ?_; rintro e w' ⟨rfl, h⟩; rw [← hv.out]; have HC := Lib.hid (Chg.trans HC.out h (fun _ _ h => h)); clear h) | (go_at_call 31; refine Calls.mono (refCheck_any' _ A c f hl (by exact HR.out.later HC.out (fun _ h => h.elim))) ?_; rintro e w' ⟨rfl, rfl⟩; rw [← hv.out]) | (go_at_call 34; refine Calls.mono (tawake_any _) ?_; rintro e w' ⟨rfl, h⟩; have HC := Lib.hid (Chg.trans HC.out h (fun _ _ h => h)); clear h))
      go_ret
      exact ⟨rfl, HC.out.below (Nat.le_refl _) (fun _ h => h.elim)⟩
    have d1 : decide (a < 0) = false := by rw [decide_eq_false_iff_not]; omega
    by_cases h2 : b < a
    · have d2 : decide (b < a) = true := by rw [decide_eq_true_iff]; omega
      clear h h0 h1 h2
      go_enter Try.func9, Try.ntmps9
      go_wp2_with (first | (go_at_call 30; refine Calls.mono (check_any _ A c f hl (by exact HR.out.later HC.out (fun _ h => h.elim))) ?_; rintro e w' ⟨rfl, h⟩; rw [← hv.out]; have HC := Lib.hid (Chg.trans HC.out h (fun _ _ h => h)); clear h) | (go_at_call 31; refine Calls.mono (refCheck_any' _ A c f hl (by exact HR.out.later HC.out (fun _ h => h.elim))) ?_; rintro e w' ⟨rfl, rfl⟩; rw [← hv.out]) | (go_at_call 34; refine Calls.mono (tawake_any _) ?_; rintro e w' ⟨rfl, h⟩; have HC := Lib.hid (Chg.trans HC.out h (fun _ _ h => h)); clear h))
      go_ret
      exact ⟨rfl, HC.out.below (Nat.le_refl _) (fun _ h => h.elim)⟩
    have d2 : decide (b < a) = false := by rw [decide_eq_false_iff_not]; omega
    have d3 : decide ((f.length : Int) ≤ b) = true := by rw [decide_eq_true_iff]; omega
    clear h h0 h1 h2
    go_enter Try.func9, Try.ntmps9
    go_wp2_with (first | (go_at_call 30; refine Calls.mono (check_any _ A c f hl (by exact HR.out.later HC.out (fun _ h => h.elim))) ?_; rintro e w' ⟨rfl, h⟩; rw [← hv.out]; have HC := Lib.hid (Chg.trans HC.out h (fun _ _ h => h)); clear h) | (go_at_call 31; refine Calls.mono (refCheck_any' _ A c f hl (by exact HR.out.later HC.out (fun _ h => h.elim))) ?_; rintro e w' ⟨rfl, rfl⟩; rw [← hv.out]) | (go_at_call 34; refine Calls.mono (tawake_any _) ?_; rintro e w' ⟨rfl, h⟩; have HC := Lib.hid (Chg.trans HC.out h (fun _ _ h => h)); clear h))
    go_ret
    exact ⟨rfl, HC.out.below (Nat.le_refl _) (fun _ h => h.elim)⟩
  · have hz0 : (v == 0) = false := by rw [beq_eq_false_iff_ne]; exact h0
    have hz : (v != 0) = true := by simpa using h0
    clear h h0
    go_enter Try.func9, Try.ntmps9
    go_wp2_with (first | (go_at_call 30; refine Calls.mono (check_any _ A c f hl (by exact HR.out.later HC.out (fun _ h => h.elim))) ?_; rintro e w' ⟨rfl, h⟩; rw [← hv.out]; have HC := Lib.hid (Chg.trans HC.out h (fun _ _ h => h)); clear h) | (go_at_call 31; refine Calls.mono (refCheck_any' _ A c f hl (by exact HR.out.later HC.out (fun _ h => h.elim))) ?_; rintro e w' ⟨rfl, rfl⟩; rw [← hv.out]) | (go_at_call 34; refine Calls.mono (tawake_any _) ?_; rintro e w' ⟨rfl, h⟩; have HC := Lib.hid (Chg.trans HC.out h (fun _ _ h => h)); clear h))
    go_ret
    exact ⟨rfl, HC.out.below (Nat.le_refl _) (fun _ h => h.elim)⟩

set_option maxRecDepth 100000 in
set_option maxHeartbeats 4000000 in
theorem law_nests_in (W : World) (b0 o0 : Nat) (c : Nat) (f : List Nm.Item) (a b : Nat) (hl : f.length ≤ maxLen) (hn : f.length ≤ c) (hr : Rd W W.heap.size (some ⟨b0, o0, none⟩) (cellsI f)) (h0 : Tr.check (sg f) f.length = 0) (hab : a ≤ b) (hbl : b < f.length) :
    Calls Try.prog 9 #[.slice (some ⟨b0, o0, none⟩) f.length c, .int .i64 a, .int .i64 b] W fun e W' => e = .returned (.bool true) ∧ Below W.heap.size W W' := by
  obtain ⟨hz, h64, hbg⟩ := Tr.check_zero.1 h0
  obtain ⟨t, ht⟩ := (Tr.form_iff _).1 hbg
  obtain ⟨s, p, hs, _, hw⟩ := (Tr.form_wf ht).find a (Nat.zero_le _) (by omega)
  obtain ⟨s2, q, hs2, _, hw2⟩ := (Tr.form_wf ht).find b (Nat.zero_le _) (by omega)
  have hpa := hw.lt
  have hqb := hw2.lt
  have hnest := hw.nests hw2 hab
  obtain ⟨m, hm⟩ : ∃ m, f.length = m + 1 := ⟨f.length - 1, by omega⟩
  obtain ⟨k, hk⟩ : ∃ k, a + 1 = p + k := ⟨a + 1 - p, by omega⟩
  have KC := Lib.hid (fun (w : World) (h : Chg (fun _ => False) W w) => check_any w (some ⟨b0, o0, none⟩) c f hl (hr.later h (fun _ h => h.elim)))
  have KA := Lib.hid (fun (w : World) (h : Chg (fun _ => False) W w) => start_ok w (some ⟨b0, o0, none⟩) c f hl (hr.later h (fun _ h => h.elim)) a (by omega) h0)
  have KB := Lib.hid (fun (w : World) (h : Chg (fun _ => False) W w) => start_ok w (some ⟨b0, o0, none⟩) c f hl (hr.later h (fun _ h => h.elim)) b (by omega) h0)
  have KZ := Lib.hid (fun (w : World) (h : Chg (fun _ => False) W w) => start_ok w (some ⟨b0, o0, none⟩) c f hl (hr.later h (fun _ h => h.elim)) m (by omega) h0)
  have KS := Lib.hid (fun (w : World) (h : Chg (fun _ => False) W w) => sub_check w b0 o0 (c - p) f p k (by omega) (by omega) (by omega) (by rw [← hk, hw.beg1]) (hr.later h (fun _ h => h.elim)))
  rw [hw.beg1] at KA
  rw [hw2.beg1] at KB
  rw [show Tr.beg (sg f) 1 (m + 1) = 0 by rw [← hm]; exact hbg] at KZ
  rw [h0] at KC
  rw [hm] at KA KB KC KZ hn hbl h64 hz ⊢
  have HC := Lib.hid (Chg.refl (fun _ => False) W)
  have d1 : decide ((a : Int) < 0) = false := by rw [decide_eq_false_iff_not]; omega
  have d2 : decide ((b : Int) < (a : Int)) = false := by rw [decide_eq_false_iff_not]; omega
  have d3 : decide ((m : Int) + 1 ≤ (b : Int)) = false := by rw [decide_eq_false_iff_not]; omega
  have d4 : decide ((0 : Int) ≤ (p : Int)) = true := by rw [decide_eq_true_iff]; omega
  have d5 : decide ((p : Int) ≤ (a : Int)) = true := by rw [decide_eq_true_iff]; omega
  have d6 : decide ((0 : Int) ≤ (q : Int)) = true := by rw [decide_eq_true_iff]; omega
  have d7 : decide ((q : Int) ≤ (b : Int)) = true := by rw [decide_eq_true_iff]; omega
  have hnest2 : q ≤ p ∨ a < q := hnest
  have hor : Hid ((decide (q ≤ p) || decide (a < q)) = true) := by show _ = _; simpa using hnest2
  replace hk := Lib.hid hk
  clear hw hw2 hs hs2 ht h0 hbg hnest hm
  go_enter Try.func9, Try.ntmps9
  go_wp2_with fail
  refine Calls.mono (KC.out _ HC.out) ?_
  rintro e w' ⟨rfl, h⟩
  have HC := Lib.hid (Chg.trans HC.out h (fun _ _ h => h)); clear h
  go_wp2_with fail
  refine Calls.mono (KA.out _ HC.out) ?_
  rintro e w' ⟨rfl, h⟩
  have HC := Lib.hid (Chg.trans HC.out h (fun _ _ h => h)); clear h
  go_wp2_with fail
  refine Calls.mono (KB.out _ HC.out) ?_
  rintro e w' ⟨rfl, h⟩
  have HC := Lib.hid (Chg.trans HC.out h (fun _ _ h => h)); clear h
  go_wp2_with fail
  all_goals
    refine Calls.mono (KZ.out _ HC.out) ?_
    rintro e w' ⟨rfl, h⟩
    have HC := Lib.hid (Chg.trans HC.out h (fun _ _ h => h)); clear h
    go_wp2_with fail
    rw [show a + 1 - p = k by have := hk.out; omega]
    refine Calls.mono (KS.out _ HC.out) ?_
    rintro e w' ⟨rfl, h⟩
    have HC := Lib.hid (Chg.trans HC.out h (fun _ _ h => h)); clear h
    go_wp2_with (go_at_call 34; refine Calls.mono (tawake_any _) ?_; rintro e w' ⟨rfl, h⟩; have HC := Lib.hid (Chg.trans HC.out h (fun _ _ h => h)); clear h)
    go_ret
    refine ⟨?_, HC.out.below (Nat.le_refl _) (fun _ h => h.elim)⟩
    first | rfl | (show Ending.returned (.bool (decide (q ≤ p) || decide (a < q))) = _; rw [hor.out])
end Go.Proofs.Ytpppgnphblbbcaa
