/- The law of layer 4's Same: its walk. -/
import Derived.Test.YtpppgnphblbbcaaTrSame2
namespace Go.Proofs.Ytpppgnphblbbcaa
open Go.RowKit

set_option maxRecDepth 100000 in
set_option maxHeartbeats 4000000 in
theorem law_same (W : World) (A B : Option Addr) (c d : Nat) (a b : List Nm.Item) (hla : a.length ≤ maxLen) (hlb : b.length ≤ maxLen) (hA : Rd W W.heap.size A (cellsI a)) (hB : Rd W W.heap.size B (cellsI b)) :
    Calls Try.prog 12 #[.slice A a.length c, .slice B b.length d] W fun e W' => e = .returned (.bool true) ∧ Below W.heap.size W W' := by
  have HA := Lib.hid hA
  have HB := Lib.hid hB
  clear hA hB
  have HC := Lib.hid (Chg.refl (fun _ => False) W)
  have hself := Lib.hid (sv_true (sameP_self a))
  obtain ⟨v, hv⟩ : ∃ v, v = sv a b := ⟨_, rfl⟩
  replace hv := Lib.hid hv
  have b1 : (v == v) = true := by simp
  go_enter Try.func12, Try.ntmps12
  go_wp2_with fail
  refine Calls.mono (tsame_any _ A B c d a b hla hlb (by exact HA.out.later HC.out (fun _ h => h.elim)) (by exact HB.out.later HC.out (fun _ h => h.elim))) ?_
  rintro e w' ⟨rfl, h⟩
  rw [← hv.out]
  have HC := Lib.hid (Chg.trans HC.out h (fun _ _ h => h)); clear h
  go_wp2_with fail
  refine Calls.mono (refSame_any _ A B c d a b hla hlb (by exact HA.out.later HC.out (fun _ h => h.elim)) (by exact HB.out.later HC.out (fun _ h => h.elim))) ?_
  rintro e w' ⟨rfl, h⟩
  rw [← hv.out]
  have HC := Lib.hid (Chg.trans HC.out h (fun _ _ h => h)); clear h
  go_wp2_with fail
  refine Calls.mono (tsame_any _ A A c c a a hla hla (by exact HA.out.later HC.out (fun _ h => h.elim)) (by exact HA.out.later HC.out (fun _ h => h.elim))) ?_
  rintro e w' ⟨rfl, h⟩
  rw [hself.out]
  have HC := Lib.hid (Chg.trans HC.out h (fun _ _ h => h)); clear h
  go_wp2_with (go_at_call 34; refine Calls.mono (tawake_any _) ?_; rintro e w' ⟨rfl, h⟩; have HC := Lib.hid (Chg.trans HC.out h (fun _ _ h => h)); clear h)
  go_ret
  exact ⟨rfl, HC.out.below (Nat.le_refl _) (fun _ h => h.elim)⟩
end Go.Proofs.Ytpppgnphblbbcaa
