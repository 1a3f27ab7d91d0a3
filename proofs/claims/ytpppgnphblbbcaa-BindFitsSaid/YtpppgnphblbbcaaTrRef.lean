/- The walks of the reference's Begin, Check, Kids. -/
import Derived.Test.YtpppgnphblbbcaaTrArity
import Derived.Test.YtpppgnphblbbcaaTrLaw
namespace Go.Proofs.Ytpppgnphblbbcaa
open Go.RowKit

/-- The signs of items. -/
def sg (f : List Nm.Item) (i : Nat) : Int := match f[i]? with
  | some x => x.op
  | none => 0
theorem sg_at {f : List Nm.Item} {i : Nat} {x : Nm.Item} (h : f[i]? = some x) : sg f i = x.op := by unfold sg; rw [h]
theorem op_at {w : World} {B : Nat} {A : Option Addr} {f : List Nm.Item} (h : Rd w B A (cellsI f)) {i : Nat} (hi : i < f.length) : ∃ b o, A = some ⟨b, o, none⟩ ∧ b < B ∧ w.cell? ⟨b, o + i * 9, none⟩ = some (.int .i64 (sg f i)) := by
  obtain ⟨b, o, h1, h2, h3, _⟩ := item_at h (List.getElem?_eq_getElem hi)
  exact ⟨b, o, h1, h2, by rw [sg_at (List.getElem?_eq_getElem hi)]; exact h3⟩

set_option maxRecDepth 100000 in
set_option maxHeartbeats 2000000 in
theorem refBegin_any (w : World) (A : Option Addr) (c : Nat) (f : List Nm.Item) (e : Nat) (he : e < f.length) (hl : f.length ≤ 1000) (hr : Rd w w.heap.size A (cellsI f)) :
    Calls Try.prog 38 #[.slice A f.length c, .int .i64 e] w fun r w' => r = .returned (.int .i64 (Tr.beg (sg f) 1 (e + 1))) ∧ w = w' := by
  have HR := Lib.hid hr
  clear hr
  go_enter Try.func38, Try.ntmps38
  go_wp2
  go_loopw [6, 5] (fun i k wr => ∃ (j : Nat) (q : Int), j ≤ e + 1 ∧ i = .int .i64 ((j : Int) - 1) ∧ k = .int .i64 q ∧ 1 ≤ q ∧ q + j ≤ e + 2 + e + 2 ∧ Hid (Tr.beg (sg f) q j = Tr.beg (sg f) 1 (e + 1)) ∧ Hid (w = wr)) (fun i _ _ => (intOf i + 1).toNat)
  case atStart => 
    refine ⟨e + 1, 1, by omega, by go_num, rfl, by omega, by omega, rfl, rfl⟩
  case round =>
    obtain ⟨j, q, hj, hi, rfl, hq1, hq2, hB, hW⟩ := hrel
    cases hW.out
    rcases j with _ | j
    · subst hi
      go_wp2
      go_ret
      exact ⟨by rw [← hB.out]; rfl, rfl⟩
    · subst hi
      have hjj : (((j + 1 : Nat) : Int) - 1) = (j : Int) := by omega
      rw [hjj]
      clear hjj
      obtain ⟨b, o, rfl, hb, hc⟩ := op_at HR.out (i := j) (by omega)
      have hbs := Lib.hid (Tr.beg_succ (f := sg f) q j)
      rcases Tr.arity_range (sg f j) with h0 | h0 | h0 | h0
      · replace h0 := Lib.hid h0
        have hd : Hid (Tr.beg (sg f) 1 (e + 1) = -1) := by show _ = _; rw [← hB.out, hbs.out, h0.out]; rfl
        go_wp2_with (go_at_call 40; refine (refArity_any _ _).mono ?_; rintro e w' ⟨rfl, rfl⟩; rw [h0.out])
        go_ret
        exact ⟨by rw [hd.out]; rfl, rfl⟩
      · by_cases hq : q = 1
        · subst hq
          replace h0 := Lib.hid h0
          have hd : Hid (Tr.beg (sg f) 1 (e + 1) = j) := by show _ = _; rw [← hB.out, hbs.out, h0.out]; rfl
          go_wp2_with (go_at_call 40; refine (refArity_any _ _).mono ?_; rintro e w' ⟨rfl, rfl⟩; rw [h0.out])
          go_ret
          exact ⟨by rw [hd.out]; rfl, rfl⟩
        · replace h0 := Lib.hid h0
          have hqz : (q + (-1) == 0) = false := by rw [beq_eq_false_iff_ne]; omega
          have hd : Hid (Tr.beg (sg f) (q + (-1)) j = Tr.beg (sg f) 1 (e + 1)) := by show _ = _; rw [← hB.out, hbs.out, h0.out, if_neg (by omega), if_neg (by omega)]; rfl
          go_wp2_with (go_at_call 40; refine (refArity_any _ _).mono ?_; rintro e w' ⟨rfl, rfl⟩; rw [h0.out])
          go_roundw
          case rel => exact ⟨j, q + (-1), by omega, by go_num, by go_num, by omega, by omega, hd, by first | exact Lib.hid rfl | exact Lib.hid trivial⟩
          case measure => (simp [intOf] <;> omega)
      · replace h0 := Lib.hid h0
        have hqz : (q == 0) = false := by rw [beq_eq_false_iff_ne]; omega
        have hd : Hid (Tr.beg (sg f) q j = Tr.beg (sg f) 1 (e + 1)) := by show _ = _; rw [← hB.out, hbs.out, h0.out, if_neg (by omega), if_neg (by omega)]; congr 1; omega
        go_wp2_with (go_at_call 40; refine (refArity_any _ _).mono ?_; rintro e w' ⟨rfl, rfl⟩; rw [h0.out])
        go_roundw
        case rel => exact ⟨j, q, by omega, by go_num, by go_num, by omega, by omega, hd, by first | exact Lib.hid rfl | exact Lib.hid trivial⟩
        case measure => (simp [intOf] <;> omega)
      · replace h0 := Lib.hid h0
        have hqz : (q + 1 == 0) = false := by rw [beq_eq_false_iff_ne]; omega
        have hd : Hid (Tr.beg (sg f) (q + 1) j = Tr.beg (sg f) 1 (e + 1)) := by show _ = _; rw [← hB.out, hbs.out, h0.out, if_neg (by omega), if_neg (by omega)]; rfl
        go_wp2_with (go_at_call 40; refine (refArity_any _ _).mono ?_; rintro e w' ⟨rfl, rfl⟩; rw [h0.out])
        go_roundw
        case rel => exact ⟨j, q + 1, by omega, by go_num, by go_num, by omega, by omega, hd, by first | exact Lib.hid rfl | exact Lib.hid trivial⟩
        case measure => (simp [intOf] <;> omega)

theorem kidsB_int (f : List Nm.Item) (e : Nat) : Tr.kidsB (sg f) e = if Tr.arity (sg f e) = 0 then [] else if Tr.arity (sg f e) = 1 then [(e : Int) - 1] else [Tr.beg (sg f) 1 e - 1, (e : Int) - 1] := rfl
set_option maxRecDepth 100000 in
theorem refCheck_any' (w : World) (A : Option Addr) (c : Nat) (f : List Nm.Item) (hl : f.length ≤ maxLen) (hr : Rd w w.heap.size A (cellsI f)) :
    Calls Try.prog 31 #[.slice A f.length c] w fun r w' => r = .returned (.int .i64 (Tr.check (sg f) f.length)) ∧ w = w' := by
  have HR := Lib.hid hr
  clear hr
  unfold Tr.check
  unfold maxLen at hl
  by_cases h0 : f.length = 0
  · rw [if_pos h0, h0]
    go_enter Try.func31, Try.ntmps31
    go_wp2
    go_ret
    exact ⟨rfl, rfl⟩
  · rw [if_neg h0]
    have hz : ((f.length : Int) == 0) = false := by rw [beq_eq_false_iff_ne]; omega
    by_cases h1 : 64 < f.length
    · rw [if_pos h1]
      have hd : decide ((64 : Int) < (f.length : Int)) = true := by rw [decide_eq_true_iff]; omega
      go_enter Try.func31, Try.ntmps31
      go_wp2
      go_ret
      exact ⟨rfl, rfl⟩
    · rw [if_neg h1]
      have hd : decide ((64 : Int) < (f.length : Int)) = false := by rw [decide_eq_false_iff_not]; omega
      obtain ⟨e, he⟩ : ∃ e, f.length = e + 1 := ⟨f.length - 1, by omega⟩
      have hb := refBegin_any w A c f e (by omega) (by omega) HR.out
      rw [he] at hb
      rw [he] at h1 hz hd ⊢
      have HB := Lib.hid hb
      clear hb
      obtain ⟨v, hv⟩ : ∃ v, v = Tr.beg (sg f) 1 (e + 1) := ⟨_, rfl⟩
      rw [← hv] at HB ⊢
      clear hv he h0
      by_cases hv0 : v = 0
      · subst hv0
        go_enter Try.func31, Try.ntmps31
        go_wp2_with (go_at_call 38; refine (HB.out).mono ?_; rintro e w' ⟨rfl, rfl⟩)
        go_ret
        exact ⟨rfl, rfl⟩
      · rw [if_neg hv0]
        have hvz : (v == 0) = false := by rw [beq_eq_false_iff_ne]; omega
        have hvz2 : (v != 0) = true := by simpa using hv0
        go_enter Try.func31, Try.ntmps31
        go_wp2_with (go_at_call 38; refine (HB.out).mono ?_; rintro e w' ⟨rfl, rfl⟩)
        go_ret
        exact ⟨rfl, rfl⟩
end Go.Proofs.Ytpppgnphblbbcaa
