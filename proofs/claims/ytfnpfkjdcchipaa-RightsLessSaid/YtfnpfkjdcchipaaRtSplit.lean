/- A region that draws its order, walked a piece at a time: two operations that may come in either order, one that must come now, and all that is left in the order of the text. -/
import Derived.Test.YtfnpfkjdcchipaaKept
namespace Go.Proofs.Ytfnpfkjdcchipaa
open Go.RowKit

section
variable {P : Program} {ops : Array Oper} {Q : Exit → Act → World → Prop} {md : Region.Mode} {fuel : Nat} {listed : Array Bool} {a : Act} {w : World}
theorem wp_of_value {o : Oper} {K : Act → World → Prop} {v : Value} (h : (execOp a.eval o).run P w = .ok (.value v) w) (hk : K (a.put o.dst v) w) : o.wp P a w K Q := by
  unfold Oper.wp; rw [h]; exact hk
theorem one_ready {i : Nat} {o : Oper} (hr : Region.ready md ops listed = [i]) (hi : ops[i]? = some o) (hg : o.guard = none)
    (h : ∀ K : Act → World → Prop, (∀ a w, wpAny P md ops Q fuel (listed.setIfInBounds i true) a w → K a w) → o.wp P a w K Q) : wpAny P md ops Q (fuel + 1) listed a w := by
  refine wpAny_all hr (by simp) fun j hj => ?_
  obtain rfl : j = i := by simpa using hj
  unfold wpOp
  rw [hi]
  have hw : Region.wanted o (yielded ops a.tmps) = true := by simp [Region.wanted, hg]
  show if Region.wanted o (yielded ops a.tmps) = true then _ else _
  rw [if_pos hw]
  exact .inl (h _ fun _ _ h => h)
theorem two_ready {i j : Nat} {x y : Oper} {u v : Value} (hr : Region.ready md ops listed = [i, j]) (hi : ops[i]? = some x) (hj : ops[j]? = some y) (gx : x.guard = none) (gy : y.guard = none)
    (hx : (execOp a.eval x).run P w = .ok (.value u) w) (hy : (execOp a.eval y).run P w = .ok (.value v) w)
    (hx' : (execOp (a.put y.dst v).eval x).run P w = .ok (.value u) w) (hy' : (execOp (a.put x.dst u).eval y).run P w = .ok (.value v) w)
    (ri : Region.ready md ops (listed.setIfInBounds i true) = [j]) (rj : Region.ready md ops (listed.setIfInBounds j true) = [i]) (hij : i ≠ j)
    (hput : (a.put y.dst v).put x.dst u = (a.put x.dst u).put y.dst v)
    (h : wpAny P md ops Q fuel ((listed.setIfInBounds i true).setIfInBounds j true) ((a.put x.dst u).put y.dst v) w) : wpAny P md ops Q (fuel + 1 + 1) listed a w := by
  refine wpAny_all hr (by simp) fun k hk => ?_
  have wx : ∀ a : Act, Region.wanted x (yielded ops a.tmps) = true := fun a => by simp [Region.wanted, gx]
  have wy : ∀ a : Act, Region.wanted y (yielded ops a.tmps) = true := fun a => by simp [Region.wanted, gy]
  have hk2 : k = i ∨ k = j := by simpa using hk
  unfold wpOp
  rcases hk2 with rfl | rfl
  · rw [hi]
    show if Region.wanted x (yielded ops a.tmps) = true then _ else _
    rw [if_pos (wx a)]
    refine .inl (wp_of_value hx (one_ready ri hj gy fun K hK => wp_of_value hy' (hK _ _ h)))
  · rw [hj]
    show if Region.wanted y (yielded ops a.tmps) = true then _ else _
    rw [if_pos (wy a)]
    refine .inl (wp_of_value hy (one_ready rj hi gx fun K hK => wp_of_value hx' (hK _ _ ?_)))
    rw [hput, Array.setIfInBounds_comm _ _ (Ne.symm hij)]
    exact h
/-- All that is left, in the order of the text. -/
theorem rest_ready {C : World → Prop} {l : List Oper} {k : Nat} (hC : C w) (hs : Region.noSelect ops = true) (hl : ops.toList.drop k = l) (hB : Region.lexFrom md ops l.length k listed = true)
    (h : wpQuiet P ops C (fun a' => ∀ w', C w' → Q .normal a' w') l a) (hn : l.length = fuel) : wpAny P md ops Q fuel listed a w := by
  subst hn
  refine wpAny_of_quiet (C := C) (Q := fun a' => ∀ w', C w' → Q .normal a' w') (fun _ w' hw' h => h w' hw') _ _ _ _ hC ?_
  refine wpAnyQ_lex hs l k listed a (fun j => ?_) hB h
  subst hl
  rw [List.getElem?_drop, Array.getElem?_toList]
end
end Go.Proofs.Ytfnpfkjdcchipaa
