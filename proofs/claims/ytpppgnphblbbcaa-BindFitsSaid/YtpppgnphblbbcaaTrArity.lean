/- The walks of Arity, the program's and the reference's. -/
import Derived.Test.YtpppgnphblbbcaaTrPlain
import Derived.Test.YtpppgnphblbbcaaBnForm
namespace Go.Proofs.Ytpppgnphblbbcaa
open Go.RowKit
set_option maxHeartbeats 1000000 in
theorem arity_any (w : World) (op : Int) : Calls Try.prog 39 #[.int .i64 op] w fun e w' => e = .returned (.int .i64 (Tr.arity op)) ∧ w = w' := by
  rcases (by omega : (1 ≤ op ∧ op ≤ 14) ∨ (19 ≤ op ∧ op ≤ 24) ∨ op < 1 ∨ 26 < op ∨ op = 15 ∨ op = 16 ∨ op = 17 ∨ op = 18 ∨ op = 25 ∨ op = 26) with ⟨h1, h2⟩ | ⟨h1, h2⟩ | h1 | h1 | rfl | rfl | rfl | rfl | rfl | rfl
  · skip
    have ha : Hid (Tr.arity op = 0) := by show Tr.arity op = 0; unfold Tr.arity; (repeat' split) <;> omega
    have d1 : decide (1 ≤ op) = true := by rw [decide_eq_true_iff]; omega
    have d2 : decide (op ≤ 14) = true := by rw [decide_eq_true_iff]; omega
    go_enter Try.func39, Try.ntmps39
    go_wp2
    go_ret
    exact ⟨by rw [ha.out]; rfl, rfl⟩
  · skip
    have ha : Hid (Tr.arity op = 1) := by show Tr.arity op = 1; unfold Tr.arity; (repeat' split) <;> omega
    have d1 : decide (1 ≤ op) = true := by rw [decide_eq_true_iff]; omega
    have d2 : decide (op ≤ 14) = false := by rw [decide_eq_false_iff_not]; omega
    have d3 : decide (19 ≤ op) = true := by rw [decide_eq_true_iff]; omega
    have d4 : decide (op ≤ 24) = true := by rw [decide_eq_true_iff]; omega
    have k15 : (op == 15) = false := by rw [beq_eq_false_iff_ne]; omega
    have k16 : (op == 16) = false := by rw [beq_eq_false_iff_ne]; omega
    have k17 : (op == 17) = false := by rw [beq_eq_false_iff_ne]; omega
    have k18 : (op == 18) = false := by rw [beq_eq_false_iff_ne]; omega
    have k25 : (op == 25) = false := by rw [beq_eq_false_iff_ne]; omega
    have k26 : (op == 26) = false := by rw [beq_eq_false_iff_ne]; omega
    go_enter Try.func39, Try.ntmps39
    go_wp2
    go_ret
    exact ⟨by rw [ha.out]; rfl, rfl⟩
  · skip
    have ha : Hid (Tr.arity op = -1) := by show Tr.arity op = -1; unfold Tr.arity; (repeat' split) <;> omega
    have d1 : decide (1 ≤ op) = false := by rw [decide_eq_false_iff_not]; omega
    have d3 : decide (19 ≤ op) = false := by rw [decide_eq_false_iff_not]; omega
    have d5 : decide (16 ≤ op) = false := by rw [decide_eq_false_iff_not]; omega
    have k15 : (op == 15) = false := by rw [beq_eq_false_iff_ne]; omega
    have k16 : (op == 16) = false := by rw [beq_eq_false_iff_ne]; omega
    have k17 : (op == 17) = false := by rw [beq_eq_false_iff_ne]; omega
    have k18 : (op == 18) = false := by rw [beq_eq_false_iff_ne]; omega
    have k25 : (op == 25) = false := by rw [beq_eq_false_iff_ne]; omega
    have k26 : (op == 26) = false := by rw [beq_eq_false_iff_ne]; omega
    go_enter Try.func39, Try.ntmps39
    go_wp2
    go_ret
    exact ⟨by rw [ha.out]; rfl, rfl⟩
  · skip
    have ha : Hid (Tr.arity op = -1) := by show Tr.arity op = -1; unfold Tr.arity; (repeat' split) <;> omega
    have d1 : decide (1 ≤ op) = true := by rw [decide_eq_true_iff]; omega
    have d2 : decide (op ≤ 14) = false := by rw [decide_eq_false_iff_not]; omega
    have d3 : decide (19 ≤ op) = true := by rw [decide_eq_true_iff]; omega
    have d4 : decide (op ≤ 24) = false := by rw [decide_eq_false_iff_not]; omega
    have d5 : decide (16 ≤ op) = true := by rw [decide_eq_true_iff]; omega
    have d6 : decide (op ≤ 18) = false := by rw [decide_eq_false_iff_not]; omega
    have k15 : (op == 15) = false := by rw [beq_eq_false_iff_ne]; omega
    have k16 : (op == 16) = false := by rw [beq_eq_false_iff_ne]; omega
    have k17 : (op == 17) = false := by rw [beq_eq_false_iff_ne]; omega
    have k18 : (op == 18) = false := by rw [beq_eq_false_iff_ne]; omega
    have k25 : (op == 25) = false := by rw [beq_eq_false_iff_ne]; omega
    have k26 : (op == 26) = false := by rw [beq_eq_false_iff_ne]; omega
    go_enter Try.func39, Try.ntmps39
    go_wp2
    go_ret
    exact ⟨by rw [ha.out]; rfl, rfl⟩
  all_goals
    go_enter Try.func39, Try.ntmps39
    go_wp2
    go_ret
    exact ⟨rfl, rfl⟩
set_option maxHeartbeats 1000000 in
theorem refArity_any (w : World) (op : Int) : Calls Try.prog 40 #[.int .i64 op] w fun e w' => e = .returned (.int .i64 (Tr.arity op)) ∧ w = w' := by
  rcases (by omega : (1 ≤ op ∧ op ≤ 14) ∨ (19 ≤ op ∧ op ≤ 24) ∨ op < 1 ∨ 26 < op ∨ op = 15 ∨ op = 16 ∨ op = 17 ∨ op = 18 ∨ op = 25 ∨ op = 26) with ⟨h1, h2⟩ | ⟨h1, h2⟩ | h1 | h1 | rfl | rfl | rfl | rfl | rfl | rfl
  · skip
    have ha : Hid (Tr.arity op = 0) := by show Tr.arity op = 0; unfold Tr.arity; (repeat' split) <;> omega
    have d1 : decide (1 ≤ op) = true := by rw [decide_eq_true_iff]; omega
    have d2 : decide (op ≤ 14) = true := by rw [decide_eq_true_iff]; omega
    go_enter Try.func40, Try.ntmps40
    go_wp2
    go_ret
    exact ⟨by rw [ha.out]; rfl, rfl⟩
  · skip
    have ha : Hid (Tr.arity op = 1) := by show Tr.arity op = 1; unfold Tr.arity; (repeat' split) <;> omega
    have d1 : decide (1 ≤ op) = true := by rw [decide_eq_true_iff]; omega
    have d2 : decide (op ≤ 14) = false := by rw [decide_eq_false_iff_not]; omega
    have d3 : decide (19 ≤ op) = true := by rw [decide_eq_true_iff]; omega
    have d4 : decide (op ≤ 24) = true := by rw [decide_eq_true_iff]; omega
    have k15 : (op == 15) = false := by rw [beq_eq_false_iff_ne]; omega
    have k16 : (op == 16) = false := by rw [beq_eq_false_iff_ne]; omega
    have k17 : (op == 17) = false := by rw [beq_eq_false_iff_ne]; omega
    have k18 : (op == 18) = false := by rw [beq_eq_false_iff_ne]; omega
    have k25 : (op == 25) = false := by rw [beq_eq_false_iff_ne]; omega
    have k26 : (op == 26) = false := by rw [beq_eq_false_iff_ne]; omega
    go_enter Try.func40, Try.ntmps40
    go_wp2
    go_ret
    exact ⟨by rw [ha.out]; rfl, rfl⟩
  · skip
    have ha : Hid (Tr.arity op = -1) := by show Tr.arity op = -1; unfold Tr.arity; (repeat' split) <;> omega
    have d1 : decide (1 ≤ op) = false := by rw [decide_eq_false_iff_not]; omega
    have d3 : decide (19 ≤ op) = false := by rw [decide_eq_false_iff_not]; omega
    have d5 : decide (16 ≤ op) = false := by rw [decide_eq_false_iff_not]; omega
    have k15 : (op == 15) = false := by rw [beq_eq_false_iff_ne]; omega
    have k16 : (op == 16) = false := by rw [beq_eq_false_iff_ne]; omega
    have k17 : (op == 17) = false := by rw [beq_eq_false_iff_ne]; omega
    have k18 : (op == 18) = false := by rw [beq_eq_false_iff_ne]; omega
    have k25 : (op == 25) = false := by rw [beq_eq_false_iff_ne]; omega
    have k26 : (op == 26) = false := by rw [beq_eq_false_iff_ne]; omega
    go_enter Try.func40, Try.ntmps40
    go_wp2
    go_ret
    exact ⟨by rw [ha.out]; rfl, rfl⟩
  · skip
    have ha : Hid (Tr.arity op = -1) := by show Tr.arity op = -1; unfold Tr.arity; (repeat' split) <;> omega
    have d1 : decide (1 ≤ op) = true := by rw [decide_eq_true_iff]; omega
    have d2 : decide (op ≤ 14) = false := by rw [decide_eq_false_iff_not]; omega
    have d3 : decide (19 ≤ op) = true := by rw [decide_eq_true_iff]; omega
    have d4 : decide (op ≤ 24) = false := by rw [decide_eq_false_iff_not]; omega
    have d5 : decide (16 ≤ op) = true := by rw [decide_eq_true_iff]; omega
    have d6 : decide (op ≤ 18) = false := by rw [decide_eq_false_iff_not]; omega
    have k15 : (op == 15) = false := by rw [beq_eq_false_iff_ne]; omega
    have k16 : (op == 16) = false := by rw [beq_eq_false_iff_ne]; omega
    have k17 : (op == 17) = false := by rw [beq_eq_false_iff_ne]; omega
    have k18 : (op == 18) = false := by rw [beq_eq_false_iff_ne]; omega
    have k25 : (op == 25) = false := by rw [beq_eq_false_iff_ne]; omega
    have k26 : (op == 26) = false := by rw [beq_eq_false_iff_ne]; omega
    go_enter Try.func40, Try.ntmps40
    go_wp2
    go_ret
    exact ⟨by rw [ha.out]; rfl, rfl⟩
  all_goals
    go_enter Try.func40, Try.ntmps40
    go_wp2
    go_ret
    exact ⟨rfl, rfl⟩
end Go.Proofs.Ytpppgnphblbbcaa
