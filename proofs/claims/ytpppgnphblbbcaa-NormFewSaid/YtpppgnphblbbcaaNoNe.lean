/- Two unlike steps, compared. -/
import Derived.Test.YtpppgnphblbbcaaNoCheck
namespace Go.Proofs.Ytpppgnphblbbcaa
open Go.RowKit

theorem equal_ne (w : World) {s t : No.Stp} (hs : No.okS s) (ht : No.okS t) (hne : s ≠ t) : (Op.equal 80 (.agg (stpA s)) (.agg (stpA t))).run Try.prog w = .ok false w := by
  obtain ⟨l1, h1⟩ := stp_key hs
  obtain ⟨l2, h2⟩ := stp_key ht
  obtain ⟨r, hr, hiff⟩ := run_equal_deep w (m := 100) (by omega) (k := 80) (by kernel_rfl) (by rw [Try.underlying80]) h1 h2
  have : r = false := by
    cases r with
    | false => rfl
    | true =>
      have e := hiff.1 rfl
      subst e
      exact absurd (stp_inj (stp_keyed.inj h1 h2)) hne
  rw [hr, this]
theorem quiet_ne {ops : Array Oper} {C : World → Prop} {Q : Act → Prop} {a : Act} {o : Oper} {rest : List Oper} {x y : Operand} {yt : TypeId} {s t : No.Stp} (hg : o.guard = none) (ho : o.op = .binOp .eql 80 x y yt) (hx : a.eval x = .agg (stpA s)) (hy : a.eval y = .agg (stpA t))
    (hs : No.okS s) (ht : No.okS t) (hne : s ≠ t) (h : wpQuiet Try.prog ops C Q rest (a.put o.dst (.bool false))) : wpQuiet Try.prog ops C Q (o :: rest) a := by
  refine wpQuiet_step fun K hK => ?_
  have hw : Region.wanted o (yielded ops a.tmps) = true := by simp [Region.wanted, hg]
  rw [if_pos hw]
  refine ⟨.bool false, fun w _ => ?_, hK _ h⟩
  unfold Oper.quietAt
  have he : (execOp a.eval o).run Try.prog w = .ok (.value (.bool false)) w := by
    simp [execOp, ho, hx, hy, eqGuard, binOp, equal_ne w hs ht hne, Result.andThen]
  rw [he]
  exact ⟨rfl, rfl⟩
end Go.Proofs.Ytpppgnphblbbcaa
