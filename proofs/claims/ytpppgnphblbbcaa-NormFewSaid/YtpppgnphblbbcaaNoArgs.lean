/- Instructions and steps that came in. -/
import Derived.Test.YtpppgnphblbbcaaNoItems
import Derived.Test.YtpppgnphblbbcaaNmArgs
import Derived.SizedLaws
namespace Go.Proofs.Ytpppgnphblbbcaa
open Go.ChangeShapes Go.WideShapes Go.ChangeAt Go.RowKit Go.Deep

theorem k75 : Try.prog.cellsOf 75 = 2 := by kernel_rfl
theorem k77 : Try.prog.cellsOf 77 = 7 := by kernel_rfl
theorem k79 : Try.prog.cellsOf 79 = 10 := by kernel_rfl
section
variable {H : Type} {enc : TypeId × Value → H} {W : World} {b : Nat} {sp : Nat → Bool} {hd : Bool} {fuel : Nat} {cs : List Value} {y : DataW H × List MemPlace}
theorem int_in {t : TypeId} (ht : Try.prog.underlying t = some (.int .i64)) (h : DataW.trod enc Try.prog W b sp hd fuel t cs = some y) : ∃ x : Int, cs = [.int .i64 x] ∧ No.inR x := by
  obtain ⟨n, hc, _, hw⟩ := DataW.trod_int ht h
  refine ⟨n, hc, ?_⟩
  unfold No.inR
  simp [Lit.wf, IntKind.min, IntKind.max, IntKind.signed, IntKind.bits] at hw
  omega
theorem two2 {α : Type} (l : List α) (h : l.length = 2) : ∃ a0 a1, l = [a0, a1] :=
  match l, h with
  | [a0, a1], _ => ⟨a0, a1, rfl⟩
theorem seven7 {α : Type} (l : List α) (h : l.length = 7) : ∃ a0 a1 a2 a3 a4 a5 a6, l = [a0, a1, a2, a3, a4, a5, a6] :=
  match l, h with
  | [a0, a1, a2, a3, a4, a5, a6], _ => ⟨a0, a1, a2, a3, a4, a5, a6, rfl⟩
theorem ten10 {α : Type} (l : List α) (h : l.length = 10) : ∃ a0 a1 a2 a3 a4 a5 a6 a7 a8 a9, l = [a0, a1, a2, a3, a4, a5, a6, a7, a8, a9] :=
  match l, h with
  | [a0, a1, a2, a3, a4, a5, a6, a7, a8, a9], _ => ⟨a0, a1, a2, a3, a4, a5, a6, a7, a8, a9, rfl⟩
set_option maxRecDepth 100000 in
theorem val_in (h : DataW.trod enc Try.prog W b sp hd fuel 75 cs = some y) : ∃ a n : Int, cs = [.int .i64 a, .int .i64 n] ∧ No.inR a ∧ No.inR n := by
  obtain ⟨hl, n, hf⟩ := field_of Try.underlying75 h
  rw [k75] at hl
  obtain ⟨a0, a1, rfl⟩ := two2 cs hl
  obtain ⟨z0, h0⟩ := field_at hf 0 3 0 1 rfl k3
  obtain ⟨z1, h1⟩ := field_at hf 1 2 1 1 rfl k2
  simp only [List.drop_zero, List.drop_succ_cons, List.take_succ_cons, List.take_zero] at h0 h1
  obtain ⟨a, e0, r0⟩ := int_in Try.underlying3 h0
  obtain ⟨c, e1, r1⟩ := int_in Try.underlying2 h1
  simp only [List.cons.injEq, and_true] at e0 e1
  subst e0; subst e1
  exact ⟨a, c, rfl, r0, r1⟩
set_option maxRecDepth 100000 in
theorem ins_in (h : DataW.trod enc Try.prog W b sp hd fuel 77 cs = some y) : ∃ x : Nm.Inst, cs = instV7 x ∧ No.okI x := by
  obtain ⟨hl, n, hf⟩ := field_of Try.underlying77 h
  rw [k77] at hl
  obtain ⟨a0, a1, a2, a3, a4, a5, a6, rfl⟩ := seven7 cs hl
  obtain ⟨z0, h0⟩ := field_at hf 0 3 0 1 rfl k3
  obtain ⟨z1, h1⟩ := field_at hf 1 75 1 2 rfl k75
  obtain ⟨z2, h2⟩ := field_at hf 2 75 3 2 rfl k75
  obtain ⟨z3, h3⟩ := field_at hf 3 3 5 1 rfl k3
  obtain ⟨z4, h4⟩ := field_at hf 4 3 6 1 rfl k3
  simp only [List.drop_zero, List.drop_succ_cons, List.take_succ_cons, List.take_zero] at h0 h1 h2 h3 h4
  obtain ⟨op, e0, r0⟩ := int_in Try.underlying3 h0
  obtain ⟨la, ln, e1, r1, r2⟩ := val_in h1
  obtain ⟨ra, rn, e2, r3, r4⟩ := val_in h2
  obtain ⟨nn, e3, r5⟩ := int_in Try.underlying3 h3
  obtain ⟨us, e4, r6⟩ := int_in Try.underlying3 h4
  simp only [List.cons.injEq, and_true] at e0 e1 e2 e3 e4
  obtain ⟨rfl, rfl⟩ := e1
  obtain ⟨rfl, rfl⟩ := e2
  subst e0; subst e3; subst e4
  exact ⟨⟨op, la, ln, ra, rn, nn, us⟩, rfl, r0, r1, r2, r3, r4, r5, r6⟩
set_option maxRecDepth 100000 in
theorem stp_in (h : DataW.trod enc Try.prog W b sp hd fuel 79 cs = some y) : ∃ s : No.Stp, cs = stpC s ∧ No.okS s := by
  obtain ⟨hl, n, hf⟩ := field_of Try.underlying79 h
  rw [k79] at hl
  obtain ⟨a0, a1, a2, a3, a4, a5, a6, a7, a8, a9, rfl⟩ := ten10 cs hl
  obtain ⟨z0, h0⟩ := field_at hf 0 3 0 1 rfl k3
  obtain ⟨z1, h1⟩ := field_at hf 1 3 1 1 rfl k3
  obtain ⟨z2, h2⟩ := field_at hf 2 3 2 1 rfl k3
  obtain ⟨z3, h3⟩ := field_at hf 3 77 3 7 rfl k77
  simp only [List.drop_zero, List.drop_succ_cons, List.take_succ_cons, List.take_zero] at h0 h1 h2 h3
  obtain ⟨op, e0, r0⟩ := int_in Try.underlying3 h0
  obtain ⟨a, e1, r1⟩ := int_in Try.underlying3 h1
  obtain ⟨bb, e2, r2⟩ := int_in Try.underlying3 h2
  obtain ⟨x, e3, r3⟩ := ins_in h3
  simp only [instV7, List.cons.injEq, and_true] at e0 e1 e2 e3
  obtain ⟨rfl, rfl, rfl, rfl, rfl, rfl, rfl⟩ := e3
  subst e0; subst e1; subst e2
  exact ⟨⟨op, a, bb, x⟩, rfl, r0, r1, r2, r3⟩
end
theorem steps_in {H : Type} {enc : TypeId × Value → H} {W : World} {A : Option Addr} {n c : Nat} {d : DataW H} {p : List MemPlace} (h : DataW.Trod enc Try.prog W 0 (fun _ => true) true 72 (.slice A n c) d p) :
    ∃ L : List No.Stp, n = L.length ∧ L.length ≤ maxLen ∧ Rd W W.heap.size A (L.flatMap stpC) ∧ ∀ s ∈ L, No.okS s :=
  slice_in Try.underlying72 k79 (by omega) h stpC stpC_len No.okS (fun _ _ _ ht => stp_in ht)
theorem inss_in {H : Type} {enc : TypeId × Value → H} {W : World} {A : Option Addr} {n c : Nat} {d : DataW H} {p : List MemPlace} (h : DataW.Trod enc Try.prog W 0 (fun _ => true) true 49 (.slice A n c) d p) :
    ∃ f : List Nm.Inst, n = f.length ∧ f.length ≤ maxLen ∧ Rd W W.heap.size A (f.flatMap instV7) ∧ ∀ x ∈ f, No.okI x :=
  slice_in Try.underlying49 k77 (by omega) h instV7 instV7_len No.okI (fun _ _ _ ht => ins_in ht)
/-- A slice that came in is no longer than memory. -/
theorem slice_bytes {H : Type} {enc : TypeId × Value → H} {W : World} {A : Option Addr} {n c : Nat} {d : DataW H} {ds : List (DataW H)} {p : List MemPlace} {ts : List TypeId} {j t e : Nat} {k : Nat} (hu : Try.prog.underlying t = some (.slice e)) (hk : Try.prog.bytesOf e = k)
    (h : DataW.Trod enc Try.prog W 0 (fun _ => true) true t (.slice A n c) d p) (hs : (DataW.weightsEach Try.prog ts ds).all (· ≤ reachBytes) = true) (ht : ts[j]? = some t) (hd : ds[j]? = some d) : n * k ≤ 140737488355328 := by
  obtain ⟨fuel, h⟩ := h
  rcases open_slice hu h with ⟨hcs, _⟩ | ⟨a, len, cap, m, n', D, Pl, hcs, _, hl, hm, hmm, hx, _⟩
  · simp only [Value.cells, List.cons.injEq, and_true] at hcs
    injection hcs with _ h2 _
    subst h2; simp
  · simp only [Value.cells, List.cons.injEq, and_true] at hcs
    injection hcs with _ h2 _
    subst h2
    have hd2 := congrArg Prod.fst hx
    dsimp only at hd2
    rw [hd2] at hd
    have hb := sized_slice hs ht hd hu
    rw [hk, List.length_map, List.length_range] at hb
    have h1 : n * k ≤ (n + ((List.range (m - n)).map fun j => D (n + j)).length) * k := Nat.mul_le_mul_right k (Nat.le_add_right _ _)
    have := reachBytes_lt
    omega
theorem bytes79 : Try.prog.bytesOf 79 = 80 := by kernel_rfl
end Go.Proofs.Ytpppgnphblbbcaa
