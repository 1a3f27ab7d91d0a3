/- A slice of statements that came in. -/
import Derived.Test.YtpppgnphblbbcaaArgs
import Derived.Test.YtpppgnphblbbcaaNmRef
namespace Go.Proofs.Ytpppgnphblbbcaa
open Go.ChangeShapes Go.WideShapes Go.ChangeAt Go.RowKit Go.Deep

theorem k3 : Try.prog.cellsOf 3 = 1 := by kernel_rfl
theorem k2 : Try.prog.cellsOf 2 = 1 := by kernel_rfl
theorem k4 : Try.prog.cellsOf 4 = 1 := by kernel_rfl
theorem k9 : Try.prog.cellsOf 9 = 1 := by kernel_rfl
theorem k27 : Try.prog.cellsOf 27 = 2 := by kernel_rfl
theorem k32 : Try.prog.cellsOf 32 = 1 := by kernel_rfl
theorem k33 : Try.prog.cellsOf 33 = 1 := by kernel_rfl
theorem k35 : Try.prog.cellsOf 35 = 12 := by kernel_rfl

set_option maxRecDepth 100000 in
theorem pos_shape {H : Type} {enc : TypeId × Value → H} {W : World} {b : Nat} {sp : Nat → Bool} {hd : Bool} {fuel : Nat} {c0 c1 : Value} {y : DataW H × List MemPlace} (h : DataW.trod enc Try.prog W b sp hd fuel 27 [c0, c1] = some y) : ∃ l c : Int, c0 = .int .i64 l ∧ c1 = .int .i64 c := by
  obtain ⟨_, n, hf⟩ := field_of Try.underlying27 h
  obtain ⟨z0, h0⟩ := field_at hf 0 3 0 1 rfl k3
  obtain ⟨z1, h1⟩ := field_at hf 1 3 1 1 rfl k3
  obtain ⟨l, hl⟩ := cell_int Try.underlying3 h0
  obtain ⟨c, hc⟩ := cell_int Try.underlying3 h1
  simp only [List.drop_zero, List.drop_succ_cons, List.take_succ_cons, List.take_zero, List.cons.injEq, and_true] at hl hc
  exact ⟨l, c, hl, hc⟩

theorem twelve {α : Type} (l : List α) (h : l.length = 12) : ∃ a0 a1 a2 a3 a4 a5 a6 a7 a8 a9 a10 a11, l = [a0, a1, a2, a3, a4, a5, a6, a7, a8, a9, a10, a11] :=
  match l, h with
  | [a0, a1, a2, a3, a4, a5, a6, a7, a8, a9, a10, a11], _ => ⟨a0, a1, a2, a3, a4, a5, a6, a7, a8, a9, a10, a11, rfl⟩

set_option maxRecDepth 100000 in
theorem stm_shape {H : Type} {enc : TypeId × Value → H} {W : World} {b : Nat} {sp : Nat → Bool} {hd : Bool} {fuel : Nat} {cs : List Value} {y : DataW H × List MemPlace} (h : DataW.trod enc Try.prog W b sp hd fuel 35 cs = some y) : ∃ x : StmC, cs = x.cells ∧ x.s.name.size ≤ maxLen := by
  obtain ⟨hl, n, hf⟩ := field_of Try.underlying35 h
  obtain ⟨a0, a1, a2, a3, a4, a5, a6, a7, a8, a9, a10, a11, rfl⟩ := twelve cs hl
  obtain ⟨z0, h0⟩ := field_at hf 0 3 0 1 rfl k3
  obtain ⟨z1, h1⟩ := field_at hf 1 9 1 1 rfl k9
  obtain ⟨z2, h2⟩ := field_at hf 2 27 2 2 rfl k27
  obtain ⟨z3, h3⟩ := field_at hf 3 2 4 1 rfl k2
  obtain ⟨z4, h4⟩ := field_at hf 4 32 5 1 rfl k32
  obtain ⟨z5, h5⟩ := field_at hf 5 9 6 1 rfl k9
  obtain ⟨z6, h6⟩ := field_at hf 6 9 7 1 rfl k9
  obtain ⟨z7, h7⟩ := field_at hf 7 9 8 1 rfl k9
  obtain ⟨z8, h8⟩ := field_at hf 8 3 9 1 rfl k3
  obtain ⟨z9, h9⟩ := field_at hf 9 33 10 1 rfl k33
  obtain ⟨z10, h10⟩ := field_at hf 10 4 11 1 rfl k4
  simp only [List.drop_zero, List.drop_succ_cons, List.take_succ_cons, List.take_zero] at h0 h1 h2 h3 h4 h5 h6 h7 h8 h9 h10
  obtain ⟨kd, e0⟩ := cell_int Try.underlying3 h0
  obtain ⟨nm, e1, _, hz⟩ := DataW.trod_string Try.underlying9 h1
  obtain ⟨ln, cl, e2, e3⟩ := pos_shape h2
  obtain ⟨ini, e4⟩ := cell_int Try.underlying2 h3
  obtain ⟨nA, nn, nc, e5⟩ := cell_slice Try.underlying32 h4
  obtain ⟨ro, e6, _, _⟩ := DataW.trod_string Try.underlying9 h5
  obtain ⟨st, e7, _, _⟩ := DataW.trod_string Try.underlying9 h6
  obtain ⟨ev, e8, _, _⟩ := DataW.trod_string Try.underlying9 h7
  obtain ⟨tm, e9⟩ := cell_int Try.underlying3 h8
  obtain ⟨fA, fn, fc, e10⟩ := cell_slice Try.underlying33 h9
  obtain ⟨fi, e11, _⟩ := DataW.trod_bool Try.underlying4 h10
  simp only [List.cons.injEq, and_true] at e0 e1 e4 e5 e6 e7 e8 e9 e10 e11
  subst e0; subst e1; subst e2; subst e3; subst e4; subst e5; subst e6; subst e7; subst e8; subst e9; subst e10; subst e11
  exact ⟨⟨⟨kd, nm, ln, cl⟩, ini, nA, nn, nc, ro, st, ev, tm, fA, fn, fc, fi⟩, rfl, hz⟩

theorem stms_in {H : Type} {enc : TypeId × Value → H} {W : World} {A : Option Addr} {n c : Nat} {d : DataW H} {p : List MemPlace} (h : DataW.Trod enc Try.prog W 0 (fun _ => true) true 22 (.slice A n c) d p) :
    ∃ l : List StmC, n = l.length ∧ l.length ≤ maxLen ∧ Rd W W.heap.size A (cellsOf l) ∧ ∀ x ∈ l, x.s.name.size ≤ maxLen :=
  slice_in Try.underlying22 k35 (by omega) h StmC.cells (fun _ => rfl) (fun x => x.s.name.size ≤ maxLen) (fun _ _ _ ht => stm_shape ht)
end Go.Proofs.Ytpppgnphblbbcaa
