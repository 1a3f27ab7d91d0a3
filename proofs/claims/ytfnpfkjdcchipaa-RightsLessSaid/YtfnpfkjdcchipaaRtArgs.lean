/- A model and a state that came in. -/
import Derived.Test.YtfnpfkjdcchipaaModel
namespace Go.Proofs.Ytfnpfkjdcchipaa
open Go.ChangeShapes Go.WideShapes Go.ChangeAt Go.RowKit Go.Deep

theorem k3 : Try.prog.cellsOf 3 = 1 := by kernel_rfl
theorem k4 : Try.prog.cellsOf 4 = 1 := by kernel_rfl
theorem k9 : Try.prog.cellsOf 9 = 1 := by kernel_rfl
theorem k33 : Try.prog.cellsOf 33 = 1 := by kernel_rfl
theorem k46 : Try.prog.cellsOf 46 = 1 := by kernel_rfl
theorem k48 : Try.prog.cellsOf 48 = 3 := by kernel_rfl
theorem k50 : Try.prog.cellsOf 50 = 5 := by kernel_rfl
theorem k52 : Try.prog.cellsOf 52 = 5 := by kernel_rfl
theorem k54 : Try.prog.cellsOf 54 = 2 := by kernel_rfl
theorem k58 : Try.prog.cellsOf 58 = 2 := by kernel_rfl
theorem five {α : Type} (l : List α) (h : l.length = 5) : ∃ a0 a1 a2 a3 a4, l = [a0, a1, a2, a3, a4] :=
  match l, h with
  | [a0, a1, a2, a3, a4], _ => ⟨a0, a1, a2, a3, a4, rfl⟩
theorem two' {α : Type} (l : List α) (h : l.length = 2) : ∃ a0 a1, l = [a0, a1] :=
  match l, h with
  | [a0, a1], _ => ⟨a0, a1, rfl⟩
theorem three' {α : Type} (l : List α) (h : l.length = 3) : ∃ a0 a1 a2, l = [a0, a1, a2] :=
  match l, h with
  | [a0, a1, a2], _ => ⟨a0, a1, a2, rfl⟩
section
variable {H : Type} {enc : TypeId × Value → H} {W : World} {b : Nat} {sp : Nat → Bool} {hd : Bool} {fuel : Nat} {cs : List Value} {y : DataW H × List MemPlace}
set_option maxRecDepth 100000 in
theorem ev_shape (h : DataW.trod enc Try.prog W b sp hd fuel 52 cs = some y) : ∃ x : EvC, cs = evC x := by
  obtain ⟨hl, n, hf⟩ := field_of Try.underlying52 h
  rw [k52] at hl
  obtain ⟨a0, a1, a2, a3, a4, rfl⟩ := five cs hl
  obtain ⟨z0, h0⟩ := field_at hf 0 9 0 1 rfl k9
  obtain ⟨z1, h1⟩ := field_at hf 1 3 1 1 rfl k3
  obtain ⟨z2, h2⟩ := field_at hf 2 3 2 1 rfl k3
  obtain ⟨z3, h3⟩ := field_at hf 3 33 3 1 rfl k33
  obtain ⟨z4, h4⟩ := field_at hf 4 3 4 1 rfl k3
  simp only [List.drop_zero, List.drop_succ_cons, List.take_succ_cons, List.take_zero] at h0 h1 h2 h3 h4
  obtain ⟨s, e0, _, _⟩ := DataW.trod_string Try.underlying9 h0
  obtain ⟨r, e1⟩ := cell_int Try.underlying3 h1
  obtain ⟨st, e2⟩ := cell_int Try.underlying3 h2
  obtain ⟨A, q, c, e3⟩ := cell_slice Try.underlying33 h3
  obtain ⟨t, e4⟩ := cell_int Try.underlying3 h4
  simp only [List.cons.injEq, and_true] at e0 e1 e2 e3 e4
  subst e0; subst e1; subst e2; subst e3; subst e4
  exact ⟨⟨s, r, st, A, q, c, t⟩, rfl⟩
theorem int_shape (h : DataW.trod enc Try.prog W b sp hd fuel 3 cs = some y) : ∃ x : Int, cs = inC x ∧ inR x := by
  obtain ⟨n, hc, _, hw⟩ := DataW.trod_int Try.underlying3 h
  refine ⟨n, hc, ?_⟩
  unfold inR
  simp [Lit.wf, IntKind.min, IntKind.max, IntKind.signed, IntKind.bits] at hw
  omega
set_option maxRecDepth 100000 in
theorem mi_shape (h : DataW.trod enc Try.prog W b sp hd fuel 50 cs = some y) : ∃ x : MiC, cs = miC x := by
  obtain ⟨hl, n, hf⟩ := field_of Try.underlying50 h
  rw [k50] at hl
  obtain ⟨a0, a1, a2, a3, a4, rfl⟩ := five cs hl
  obtain ⟨z0, h0⟩ := field_at hf 0 9 0 1 rfl k9
  obtain ⟨z1, h1⟩ := field_at hf 1 3 1 1 rfl k3
  obtain ⟨z2, h2⟩ := field_at hf 2 3 2 1 rfl k3
  obtain ⟨z3, h3⟩ := field_at hf 3 46 3 1 rfl k46
  obtain ⟨z4, h4⟩ := field_at hf 4 4 4 1 rfl k4
  simp only [List.drop_zero, List.drop_succ_cons, List.take_succ_cons, List.take_zero] at h0 h1 h2 h3 h4
  obtain ⟨s, e0, _, _⟩ := DataW.trod_string Try.underlying9 h0
  obtain ⟨r, e1⟩ := cell_int Try.underlying3 h1
  obtain ⟨st, e2⟩ := cell_int Try.underlying3 h2
  obtain ⟨A, q, c, e3⟩ := cell_slice Try.underlying46 h3
  obtain ⟨t, e4, _⟩ := DataW.trod_bool Try.underlying4 h4
  simp only [List.cons.injEq, and_true] at e0 e1 e2 e3 e4
  subst e0; subst e1; subst e2; subst e3; subst e4
  exact ⟨⟨s, r, st, A, q, c, t⟩, rfl⟩
set_option maxRecDepth 100000 in
theorem ro_shape (h : DataW.trod enc Try.prog W b sp hd fuel 54 cs = some y) : ∃ x : RoC, cs = roC x ∧ inR x.us := by
  obtain ⟨hl, n, hf⟩ := field_of Try.underlying54 h
  rw [k54] at hl
  obtain ⟨a0, a1, rfl⟩ := two' cs hl
  obtain ⟨z0, h0⟩ := field_at hf 0 9 0 1 rfl k9
  obtain ⟨z1, h1⟩ := field_at hf 1 3 1 1 rfl k3
  simp only [List.drop_zero, List.drop_succ_cons, List.take_succ_cons, List.take_zero] at h0 h1
  obtain ⟨s, e0, _, _⟩ := DataW.trod_string Try.underlying9 h0
  obtain ⟨r, e1, hr⟩ := int_shape h1
  simp only [inC, List.cons.injEq, and_true] at e0 e1
  subst e0; subst e1
  exact ⟨⟨s, r⟩, rfl, hr⟩
set_option maxRecDepth 100000 in
theorem gu_shape (h : DataW.trod enc Try.prog W b sp hd fuel 48 cs = some y) : ∃ x : GuC, cs = guC x := by
  obtain ⟨hl, n, hf⟩ := field_of Try.underlying48 h
  rw [k48] at hl
  obtain ⟨a0, a1, a2, rfl⟩ := three' cs hl
  obtain ⟨z0, h0⟩ := field_at hf 0 3 0 1 rfl k3
  obtain ⟨z1, h1⟩ := field_at hf 1 3 1 1 rfl k3
  obtain ⟨z2, h2⟩ := field_at hf 2 46 2 1 rfl k46
  simp only [List.drop_zero, List.drop_succ_cons, List.take_succ_cons, List.take_zero] at h0 h1 h2
  obtain ⟨r, e0⟩ := cell_int Try.underlying3 h0
  obtain ⟨st, e1⟩ := cell_int Try.underlying3 h1
  obtain ⟨A, q, c, e2⟩ := cell_slice Try.underlying46 h2
  simp only [List.cons.injEq, and_true] at e0 e1 e2
  subst e0; subst e1; subst e2
  exact ⟨⟨r, st, A, q, c⟩, rfl⟩
set_option maxRecDepth 100000 in
theorem so_shape (h : DataW.trod enc Try.prog W b sp hd fuel 58 cs = some y) : ∃ x : Int × Int, cs = soC x := by
  obtain ⟨hl, n, hf⟩ := field_of Try.underlying58 h
  rw [k58] at hl
  obtain ⟨a0, a1, rfl⟩ := two' cs hl
  obtain ⟨z0, h0⟩ := field_at hf 0 3 0 1 rfl k3
  obtain ⟨z1, h1⟩ := field_at hf 1 3 1 1 rfl k3
  simp only [List.drop_zero, List.drop_succ_cons, List.take_succ_cons, List.take_zero] at h0 h1
  obtain ⟨r, e0⟩ := cell_int Try.underlying3 h0
  obtain ⟨t, e1⟩ := cell_int Try.underlying3 h1
  simp only [List.cons.injEq, and_true] at e0 e1
  subst e0; subst e1
  exact ⟨(r, t), rfl⟩
end
end Go.Proofs.Ytfnpfkjdcchipaa
