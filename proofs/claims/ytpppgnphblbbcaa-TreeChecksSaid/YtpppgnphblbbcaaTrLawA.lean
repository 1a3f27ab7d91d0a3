/- The laws of layer 4: their walks. -/
import Derived.Test.YtpppgnphblbbcaaTrAwake
namespace Go.Proofs.Ytpppgnphblbbcaa
open Go.RowKit

set_option maxRecDepth 100000 in
set_option maxHeartbeats 4000000 in
theorem law_checks (W : World) (A : Option Addr) (c : Nat) (f : List Nm.Item) (hl : f.length ≤ maxLen) (hr : Rd W W.heap.size A (cellsI f)) :
    Calls Try.prog 7 #[.slice A f.length c] W fun e W' => e = .returned (.bool true) ∧ Below W.heap.size W W' := by
  have HR := Lib.hid hr
  clear hr
  have HC := Lib.hid (Chg.refl (fun _ => False) W)
  obtain ⟨v, hv⟩ : ∃ v, v = Tr.check (sg f) f.length := ⟨_, rfl⟩
  replace hv := Lib.hid hv
  obtain ⟨d, hd⟩ : ∃ d, d = deepV f := ⟨_, rfl⟩
  replace hd := Lib.hid hd
  have b1 : (v == v) = true := by simp
  have b2 : (d == d) = true := by simp
  by_cases h64 : 64 < f.length
  · have hh : decide ((64 : Int) < (f.length : Int)) = true := by rw [decide_eq_true_iff]; omega
    clear h64
    go_enter Try.func7, Try.ntmps7
    go_wp2_with (first | (go_at_call 30; refine Calls.mono (check_any _ A c f hl (by exact HR.out.later HC.out (fun _ h => h.elim))) ?_; rintro e w' ⟨rfl, h⟩; rw [← hv.out]; have HC := Lib.hid (Chg.trans HC.out h (fun _ _ h => h)); clear h) | (go_at_call 31; refine Calls.mono (refCheck_any' _ A c f hl (by exact HR.out.later HC.out (fun _ h => h.elim))) ?_; rintro e w' ⟨rfl, rfl⟩; rw [← hv.out]) | (go_at_call 34; refine Calls.mono (tawake_any _) ?_; rintro e w' ⟨rfl, h⟩; have HC := Lib.hid (Chg.trans HC.out h (fun _ _ h => h)); clear h))
    go_ret
    exact ⟨rfl, HC.out.below (Nat.le_refl _) (fun _ h => h.elim)⟩
  · have hh : decide ((64 : Int) < (f.length : Int)) = false := by rw [decide_eq_false_iff_not]; omega
    clear h64
    go_enter Try.func7, Try.ntmps7
    go_wp2_with (first | (go_at_call 30; refine Calls.mono (check_any _ A c f hl (by exact HR.out.later HC.out (fun _ h => h.elim))) ?_; rintro e w' ⟨rfl, h⟩; rw [← hv.out]; have HC := Lib.hid (Chg.trans HC.out h (fun _ _ h => h)); clear h) | (go_at_call 31; refine Calls.mono (refCheck_any' _ A c f hl (by exact HR.out.later HC.out (fun _ h => h.elim))) ?_; rintro e w' ⟨rfl, rfl⟩; rw [← hv.out]) | (go_at_call 34; refine Calls.mono (tawake_any _) ?_; rintro e w' ⟨rfl, h⟩; have HC := Lib.hid (Chg.trans HC.out h (fun _ _ h => h)); clear h) | (go_at_call 32; refine Calls.mono (deepF_any _ A c f hl (by exact HR.out.later HC.out (fun _ h => h.elim))) ?_; rintro e w' ⟨⟨v, rfl, hx⟩, h⟩; rw [hx.val, ← hd.out]; clear hx; have HC := Lib.hid (Chg.trans HC.out h (fun _ _ h => h)); clear h) | (go_at_call 33; refine Calls.mono (refDeep_any _ A c f hl (by exact HR.out.later HC.out (fun _ h => h.elim))) ?_; rintro e w' ⟨⟨v, rfl, hx⟩, h⟩; rw [hx.val, ← hd.out]; clear hx; have HC := Lib.hid (Chg.trans HC.out h (fun _ _ h => h)); clear h))
    go_ret
    exact ⟨rfl, HC.out.below (Nat.le_refl _) (fun _ h => h.elim)⟩

set_option maxRecDepth 100000 in
set_option maxHeartbeats 4000000 in
theorem law_arity (W : World) (A : Option Addr) (c : Nat) (f : List Nm.Item) (op : Int) (hl : f.length ≤ maxLen) (hr : Rd W W.heap.size A (cellsI f)) :
    Calls Try.prog 10 #[.int .i64 op, .slice A f.length c] W fun e W' => e = .returned (.bool true) ∧ Below W.heap.size W W' := by
  have HR := Lib.hid hr
  clear hr
  have HC := Lib.hid (Chg.refl (fun _ => False) W)
  obtain ⟨v, hv⟩ : ∃ v, v = Tr.arity op := ⟨_, rfl⟩
  replace hv := Lib.hid hv
  obtain ⟨d, hd⟩ : ∃ d, d = usesN op f := ⟨_, rfl⟩
  replace hd := Lib.hid hd
  have b1 : (v == v) = true := by simp
  have b2 : ((d : Int) == (d : Int)) = true := by simp
  · go_enter Try.func10, Try.ntmps10
    go_wp2_with (first | (go_at_call 39; refine (arity_any _ _).mono ?_; rintro e w' ⟨rfl, rfl⟩; rw [← hv.out]) | (go_at_call 40; refine (refArity_any _ _).mono ?_; rintro e w' ⟨rfl, rfl⟩; rw [← hv.out]) | (go_at_call 34; refine Calls.mono (tawake_any _) ?_; rintro e w' ⟨rfl, h⟩; have HC := Lib.hid (Chg.trans HC.out h (fun _ _ h => h)); clear h) | (go_at_call 41; refine Calls.mono (uses_any _ A c f op hl (by exact HR.out.later HC.out (fun _ h => h.elim))) ?_; rintro e w' ⟨rfl, h⟩; rw [← hd.out]; have HC := Lib.hid (Chg.trans HC.out h (fun _ _ h => h)); clear h) | (go_at_call 42; refine Calls.mono (refUses_any _ A c f op hl (by exact HR.out.later HC.out (fun _ h => h.elim))) ?_; rintro e w' ⟨rfl, rfl⟩; rw [← hd.out]))
    go_ret
    exact ⟨rfl, HC.out.below (Nat.le_refl _) (fun _ h => h.elim)⟩

end Go.Proofs.Ytpppgnphblbbcaa
