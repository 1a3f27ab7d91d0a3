/- A slice of items that came in. -/
import Derived.Test.YtpppgnphblbbcaaNmArgs
import Derived.Test.YtpppgnphblbbcaaBnForm
namespace Go.Proofs.Ytpppgnphblbbcaa
open Go.ChangeShapes Go.WideShapes Go.ChangeAt Go.RowKit Go.Deep

theorem k68 : Try.prog.cellsOf 68 = 2 := by kernel_rfl
theorem k70 : Try.prog.cellsOf 70 = 9 := by kernel_rfl
set_option maxRecDepth 100000 in
theorem word_shape {H : Type} {enc : TypeId × Value → H} {W : World} {b : Nat} {sp : Nat → Bool} {hd : Bool} {fuel : Nat} {c0 c1 : Value} {y : DataW H × List MemPlace} (h : DataW.trod enc Try.prog W b sp hd fuel 68 [c0, c1] = some y) : ∃ (s : ByteArray) (n : Int), c0 = .string s ∧ c1 = .int .i64 n ∧ s.size ≤ maxLen := by
  obtain ⟨_, n, hf⟩ := field_of Try.underlying68 h
  obtain ⟨z0, h0⟩ := field_at hf 0 9 0 1 rfl k9
  obtain ⟨z1, h1⟩ := field_at hf 1 2 1 1 rfl k2
  obtain ⟨s, hs, _, hz⟩ := DataW.trod_string Try.underlying9 h0
  obtain ⟨c, hc⟩ := cell_int Try.underlying2 h1
  simp only [List.drop_zero, List.drop_succ_cons, List.take_succ_cons, List.take_zero, List.cons.injEq, and_true] at hs hc
  exact ⟨s, c, hs, hc, hz⟩
theorem nine {α : Type} (l : List α) (h : l.length = 9) : ∃ a0 a1 a2 a3 a4 a5 a6 a7 a8, l = [a0, a1, a2, a3, a4, a5, a6, a7, a8] :=
  match l, h with
  | [a0, a1, a2, a3, a4, a5, a6, a7, a8], _ => ⟨a0, a1, a2, a3, a4, a5, a6, a7, a8, rfl⟩
set_option maxRecDepth 100000 in
theorem item_shape {H : Type} {enc : TypeId × Value → H} {W : World} {b : Nat} {sp : Nat → Bool} {hd : Bool} {fuel : Nat} {cs : List Value} {y : DataW H × List MemPlace} (h : DataW.trod enc Try.prog W b sp hd fuel 70 cs = some y) : ∃ x : Nm.Item, cs = itemC x ∧ (x.ln.size ≤ maxLen ∧ x.rn.size ≤ maxLen ∧ x.name.size ≤ maxLen ∧ x.user.size ≤ maxLen) := by
  obtain ⟨hl, n, hf⟩ := field_of Try.underlying70 h
  obtain ⟨a0, a1, a2, a3, a4, a5, a6, a7, a8, rfl⟩ := nine cs hl
  obtain ⟨z0, h0⟩ := field_at hf 0 3 0 1 rfl k3
  obtain ⟨z1, h1⟩ := field_at hf 1 68 1 2 rfl k68
  obtain ⟨z2, h2⟩ := field_at hf 2 68 3 2 rfl k68
  obtain ⟨z3, h3⟩ := field_at hf 3 9 5 1 rfl k9
  obtain ⟨z4, h4⟩ := field_at hf 4 9 6 1 rfl k9
  obtain ⟨z5, h5⟩ := field_at hf 5 27 7 2 rfl k27
  simp only [List.drop_zero, List.drop_succ_cons, List.take_succ_cons, List.take_zero] at h0 h1 h2 h3 h4 h5
  obtain ⟨op, e0⟩ := cell_int Try.underlying3 h0
  obtain ⟨ln, lnum, e1, e2, zl⟩ := word_shape h1
  obtain ⟨rn, rnum, e3, e4, zr⟩ := word_shape h2
  obtain ⟨nm, e5, _, zn⟩ := DataW.trod_string Try.underlying9 h3
  obtain ⟨us, e6, _, zu⟩ := DataW.trod_string Try.underlying9 h4
  obtain ⟨li, co, e7, e8⟩ := pos_shape h5
  simp only [List.cons.injEq, and_true] at e0 e5 e6
  subst e0; subst e1; subst e2; subst e3; subst e4; subst e5; subst e6; subst e7; subst e8
  exact ⟨⟨op, ln, lnum, rn, rnum, nm, us, li, co⟩, rfl, zl, zr, zn, zu⟩

theorem items_in {H : Type} {enc : TypeId × Value → H} {W : World} {A : Option Addr} {n c : Nat} {d : DataW H} {p : List MemPlace} (h : DataW.Trod enc Try.prog W 0 (fun _ => true) true 33 (.slice A n c) d p) :
    ∃ f : List Nm.Item, n = f.length ∧ f.length ≤ maxLen ∧ Rd W W.heap.size A (cellsI f) ∧ Sized f :=
  slice_in Try.underlying33 k70 (by omega) h itemC itemC_len (fun x => x.ln.size ≤ maxLen ∧ x.rn.size ≤ maxLen ∧ x.name.size ≤ maxLen ∧ x.user.size ≤ maxLen) (fun _ _ _ ht => item_shape ht)
end Go.Proofs.Ytpppgnphblbbcaa
