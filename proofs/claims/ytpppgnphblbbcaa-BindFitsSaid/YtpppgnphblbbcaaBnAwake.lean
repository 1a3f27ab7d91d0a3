/- The walk of layer 11's awake. -/
import Derived.Test.YtpppgnphblbbcaaBnSame
import Derived.Test.YtpppgnphblbbcaaNmAwake
namespace Go.Proofs.Ytpppgnphblbbcaa
open Go.RowKit

def twoS : List StmC := [stm0 1 ⟨#[98]⟩, stm0 1 ⟨#[97]⟩]
def oneI : List Nm.Item := [⟨3, ⟨#[97]⟩, 0, ⟨#[]⟩, 3, ⟨#[]⟩, ⟨#[]⟩, 0, 0⟩]
theorem two_check : Nm.check (stms twoS) = (0, 0, 0) := by decide +kernel
theorem one_fault : Nm.fault (stms twoS) oneI = (0, 0, 0) := by decide +kernel
theorem one_inst : Nm.instV (stms twoS) ⟨3, ⟨#[97]⟩, 0, ⟨#[]⟩, 3, ⟨#[]⟩, ⟨#[]⟩, 0, 0⟩ = ⟨3, 1, 0, -1, 3, 0, 0⟩ := by
  have h1 : Nm.valV (stms twoS) ⟨#[97]⟩ 0 = (1, 0) := by decide +kernel
  have h2 : Nm.valV (stms twoS) ⟨#[]⟩ 3 = (-1, 3) := by decide +kernel
  unfold Nm.instV
  rw [if_pos (by decide)]
  dsimp only
  rw [h1, h2]

set_option maxRecDepth 100000 in
set_option maxHeartbeats 2000000 in
theorem bawake_any (w : World) : Calls Try.prog 26 #[] w fun e w' => e = .returned (.bool true) ∧ Chg (fun _ => False) w w' := by
  go_enter Try.func26, Try.ntmps26
  go_wp2_with fail
  have hR := rd_block (Blk.new w 35 (cellsOf twoS).toArray)
  have hC := (Chg.refl (fun _ => False) w).alloc (.cells (cellsOf twoS).toArray 35)
  obtain ⟨w1, hw1⟩ : ∃ w1, w1 = w.alloc (.cells (cellsOf twoS).toArray 35) := ⟨_, rfl⟩
  rw [← hw1] at hR hC
  have hw1' := Lib.hid hw1
  have HR := Lib.hid hR
  have HC := Lib.hid hC
  clear hR hC hw1
  refine Calls.mono (R := BuildDone w1 (stms twoS)) ?_ ?_
  · have := build_any w1 (some ⟨w.heap.size, 0, none⟩) 2 2 twoS rfl (by decide) HR.out (by decide)
    rw [hw1'.out] at this ⊢
    exact this
  rintro e w2 ⟨v, rfl, hB, hC2⟩
  rw [two_check]
  have HC2 := Lib.hid (Chg.trans HC.out hC2 (fun _ _ h => h))
  obtain ⟨b, mb, nv, rfl, hT, _⟩ : ∃ b mb nv, v = .pointer (some ⟨b, 0, none⟩) ∧ TAt w2 b mb nv (stms twoS) ∧ ∀ k, TFoot b mb nv k → w1.heap.size ≤ k := by
    rcases hB with ⟨_, h⟩ | ⟨_, h⟩
    · exact absurd (by rw [two_check]) h
    · exact h
  have HT := Lib.hid hT
  clear hB hC2 hT
  simp only [faultV]
  go_wp2_with fail
  obtain ⟨w3, hw3⟩ : ∃ w3, w3 = (w2.alloc (.cells #[.int .i64 0, .int .i64 0, .int .i64 0] 29)).alloc (.cells (cellsI oneI).toArray 70) := ⟨_, rfl⟩
  have hC3 : Chg (fun _ => False) w2 w3 := by rw [hw3]; exact ((Chg.refl _ w2).alloc _).alloc _
  have hR3 : Rd w3 w3.heap.size (some ⟨w2.heap.size + 1, 0, none⟩) (cellsI oneI) := by
    rw [hw3]; exact rd_block (blk_new2 w2 (.cells #[.int .i64 0, .int .i64 0, .int .i64 0] 29) 70 (cellsI oneI).toArray)
  refine Calls.mono (R := fun e w' => ∃ v, e = .returned (.tuple #[v, faultV (Nm.fault (stms twoS) oneI)]) ∧ Formed w3 w' (stms twoS) oneI v ∧ Chg (fun _ => False) w3 w') ?_ ?_
  · have := formula_any w3 b mb nv (stms twoS) (some ⟨w2.heap.size + 1, 0, none⟩) 1 1 oneI rfl (by decide) hR3 (by unfold Sized; decide) (HT.out.quiet hC3)
    rw [hw3] at this ⊢
    exact this
  rintro e w4 ⟨v, rfl, hF, hC4⟩
  rw [one_fault]
  have HC4 := Lib.hid (Chg.trans (Chg.trans HC2.out hC3 (fun _ _ h => h)) hC4 (fun _ _ h => h))
  have hO : w4.ownsRow w3.heap.size 77 7 v 1 (oneI.flatMap (instC (stms twoS))) := by
    rcases hF with ⟨h, _⟩ | ⟨_, h⟩
    · exact absurd (by rw [one_fault]) h
    · exact h
  have e1 : oneI.flatMap (instC (stms twoS)) = [.int .i64 3, .int .i64 1, .int .i64 0, .int .i64 (-1), .int .i64 3, .int .i64 0, .int .i64 0] := by
    unfold oneI instC
    rw [List.flatMap_cons, one_inst]; rfl
  rw [e1] at hO
  obtain ⟨g, cap, rfl⟩ : ∃ g cap, v = .slice (some ⟨g, 0, none⟩) 1 cap := by
    rcases hO.2 with ⟨_, h⟩ | ⟨g, cap, cur, h, _⟩
    · omega
    · exact ⟨g, cap, h⟩
  have hrd := own_rdN hO
  obtain ⟨b', o', hA, hlt, hc⟩ := hrd.plain (by simp)
  injection hA with hA
  injection hA with hA1 hA2 _
  subst hA1; subst hA2
  have c1 := hc 1 _ rfl
  have c2 := hc 2 _ rfl
  have c3 := hc 3 _ rfl
  have c4 := hc 4 _ rfl
  simp only [Nat.zero_add] at c1 c2 c3 c4
  simp only [faultV]
  clear hO e1 hF hC4 hrd hc hR3 hC3 hw3
  go_wp2
  go_ret
  exact ⟨rfl, HC4.out.alloc _⟩
end Go.Proofs.Ytpppgnphblbbcaa
