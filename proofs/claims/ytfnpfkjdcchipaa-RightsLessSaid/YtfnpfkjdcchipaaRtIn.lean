/- A model and a state that came in, whole. -/
import Derived.Test.YtfnpfkjdcchipaaRtArgs
import Derived.OpenShut
namespace Go.Proofs.Ytfnpfkjdcchipaa
open Go.ChangeShapes Go.WideShapes Go.ChangeAt Go.RowKit Go.Deep

section
variable {H : Type} {enc : TypeId × Value → H} {W : World}
theorem slice_len {P : Program} {fuel : Nat} {t e : TypeId} {cs : List Value} {y : DataW H × List MemPlace} (ht : P.underlying t = some (.slice e)) (h : DataW.trod enc P W 0 (fun _ => true) true fuel t cs = some y) :
    ∃ A n c, cs = [.slice A n c] ∧ n ≤ maxLen := by
  rcases open_slice ht h with ⟨hcs, _⟩ | ⟨a, len, cap, m, k, D, Pl, hcs, _, hl, hm, hmm, _, hi⟩
  · exact ⟨_, _, _, hcs, Nat.zero_le _⟩
  · exact ⟨_, _, _, hcs, by omega⟩
theorem slice_row {P : Program} {fuel : Nat} {t e : TypeId} {C : Nat} {cs : List Value} {y : DataW H × List MemPlace} (ht : P.underlying t = some (.slice e)) (hC : P.cellsOf e = C) (hC0 : 0 < C)
    (h : DataW.trod enc P W 0 (fun _ => true) true fuel t cs = some y) {α : Type} (f : α → List Value) (hf : ∀ x, (f x).length = C) (good : α → Prop)
    (each : ∀ (fuel : Nat) (cs : List Value) (y : DataW H × List MemPlace), DataW.trod enc P W 0 (fun _ => true) true fuel e cs = some y → ∃ x : α, cs = f x ∧ good x) :
    ∃ A c, ∃ l : List α, cs = [.slice A l.length c] ∧ l.length ≤ maxLen ∧ Rd W W.heap.size A (l.flatMap f) ∧ ∀ x ∈ l, good x := by
  obtain ⟨A, n, c, rfl, _⟩ := slice_len ht h
  obtain ⟨l, rfl, hl, hr, hg⟩ := slice_in ht hC hC0 (d := y.1) (p := y.2) ⟨fuel, h⟩ f hf good each
  exact ⟨A, c, l, rfl, hl, hr, hg⟩
theorem ten {α : Type} (l : List α) (h : l.length = 10) : ∃ a0 a1 a2 a3 a4 a5 a6 a7 a8 a9, l = [a0, a1, a2, a3, a4, a5, a6, a7, a8, a9] :=
  match l, h with
  | [a0, a1, a2, a3, a4, a5, a6, a7, a8, a9], _ => ⟨a0, a1, a2, a3, a4, a5, a6, a7, a8, a9, rfl⟩
theorem kk22 : Try.prog.cellsOf 22 = 1 := by kernel_rfl
theorem kk23 : Try.prog.cellsOf 23 = 1 := by kernel_rfl
theorem kk24 : Try.prog.cellsOf 24 = 1 := by kernel_rfl
theorem kk25 : Try.prog.cellsOf 25 = 1 := by kernel_rfl
theorem kk26 : Try.prog.cellsOf 26 = 1 := by kernel_rfl
theorem kk27 : Try.prog.cellsOf 27 = 1 := by kernel_rfl
theorem kk28 : Try.prog.cellsOf 28 = 1 := by kernel_rfl
theorem kk29 : Try.prog.cellsOf 29 = 1 := by kernel_rfl
theorem kk30 : Try.prog.cellsOf 30 = 1 := by kernel_rfl
theorem kk32 : Try.prog.cellsOf 32 = 10 := by kernel_rfl
theorem kk35 : Try.prog.cellsOf 35 = 5 := by kernel_rfl
/-- A model alone. -/
structure GoodM (W : World) (m : MC) : Prop where
  ro : Rd W W.heap.size m.aR (m.ro.flatMap roC)
  ev : Rd W W.heap.size m.aE (m.ev.flatMap evC)
  gu : Rd W W.heap.size m.aG (m.gu.flatMap guC)
  mi : Rd W W.heap.size m.aM (m.mi.flatMap miC)
  so : Rd W W.heap.size m.aD (m.so.flatMap soC)
  lens : m.nA ≤ maxLen ∧ m.nI ≤ maxLen ∧ m.nU ≤ maxLen ∧ m.ro.length ≤ maxLen ∧ m.nS ≤ maxLen ∧ m.ev.length ≤ maxLen ∧ m.gu.length ≤ maxLen ∧ m.mi.length ≤ maxLen ∧ m.so.length ≤ maxLen ∧ m.nO ≤ maxLen
  usR : ∀ x ∈ m.ro, inR x.us
/-- A state alone. -/
structure GoodS (W : World) (s : SC) : Prop where
  did : Rd W W.heap.size s.aD (s.did.flatMap inC)
  cnt : Rd W W.heap.size s.aC (s.cnt.flatMap inC)
  lens2 : s.nV ≤ maxLen ∧ s.did.length ≤ maxLen ∧ s.cnt.length ≤ maxLen
  opR : inR s.op
  dnR : inR s.dn
  didR : ∀ x ∈ s.did, inR x
theorem good_of {m : MC} {s : SC} (a : GoodM W m) (b : GoodS W s) : Good W m s := ⟨a.ro, a.ev, a.gu, a.mi, a.so, b.did, b.cnt, a.lens, b.lens2, b.opR, b.dnR, a.usR, b.didR⟩
set_option maxRecDepth 100000 in
theorem model_in {v : Value} {d : DataW H} {p : List MemPlace} (hv : Value.okWide Try.prog W .any 0 32 v) (h : DataW.Trod enc Try.prog W 0 (fun _ => true) true 32 v d p) : ∃ m : MC, v = .agg (mA m) ∧ GoodM W m := by
  obtain ⟨cs, rfl, _⟩ := okWide_struct Try.underlying32 hv
  obtain ⟨fuel, h⟩ := h
  replace h : DataW.trod enc Try.prog W 0 (fun _ => true) true fuel 32 cs.toList = some (d, p) := h
  obtain ⟨hl, n, hf⟩ := field_of Try.underlying32 h
  rw [kk32] at hl
  obtain ⟨a0, a1, a2, a3, a4, a5, a6, a7, a8, a9, hcs⟩ := ten cs.toList hl
  rw [hcs] at hf
  obtain ⟨z0, h0⟩ := field_at hf 0 22 0 1 rfl kk22
  obtain ⟨z1, h1⟩ := field_at hf 1 23 1 1 rfl kk23
  obtain ⟨z2, h2⟩ := field_at hf 2 22 2 1 rfl kk22
  obtain ⟨z3, h3⟩ := field_at hf 3 24 3 1 rfl kk24
  obtain ⟨z4, h4⟩ := field_at hf 4 25 4 1 rfl kk25
  obtain ⟨z5, h5⟩ := field_at hf 5 26 5 1 rfl kk26
  obtain ⟨z6, h6⟩ := field_at hf 6 27 6 1 rfl kk27
  obtain ⟨z7, h7⟩ := field_at hf 7 28 7 1 rfl kk28
  obtain ⟨z8, h8⟩ := field_at hf 8 29 8 1 rfl kk29
  obtain ⟨z9, h9⟩ := field_at hf 9 30 9 1 rfl kk30
  simp only [List.drop_zero, List.drop_succ_cons, List.take_succ_cons, List.take_zero] at h0 h1 h2 h3 h4 h5 h6 h7 h8 h9
  obtain ⟨aA, nA, cA, e0, l0⟩ := slice_len Try.underlying22 h0
  obtain ⟨aI, nI, cI, e1, l1⟩ := slice_len Try.underlying23 h1
  obtain ⟨aU, nU, cU, e2, l2⟩ := slice_len Try.underlying22 h2
  obtain ⟨aR, cR, ro, e3, l3, r3, g3⟩ := slice_row Try.underlying24 k54 (by omega) h3 roC (fun _ => rfl) (fun x => inR x.us) (fun _ _ _ ht => ro_shape ht)
  obtain ⟨aS, nS, cS, e4, l4⟩ := slice_len Try.underlying25 h4
  obtain ⟨aE, cE, ev, e5, l5, r5, _⟩ := slice_row Try.underlying26 k52 (by omega) h5 evC (fun _ => rfl) (fun _ => True) (fun _ _ _ ht => by obtain ⟨x, hx⟩ := ev_shape ht; exact ⟨x, hx, trivial⟩)
  obtain ⟨aG, cG, gu, e6, l6, r6, _⟩ := slice_row Try.underlying27 k48 (by omega) h6 guC (fun _ => rfl) (fun _ => True) (fun _ _ _ ht => by obtain ⟨x, hx⟩ := gu_shape ht; exact ⟨x, hx, trivial⟩)
  obtain ⟨aM, cM, mi, e7, l7, r7, _⟩ := slice_row Try.underlying28 k50 (by omega) h7 miC (fun _ => rfl) (fun _ => True) (fun _ _ _ ht => by obtain ⟨x, hx⟩ := mi_shape ht; exact ⟨x, hx, trivial⟩)
  obtain ⟨aD, cD, so, e8, l8, r8, _⟩ := slice_row Try.underlying29 k58 (by omega) h8 soC (fun _ => rfl) (fun _ => True) (fun _ _ _ ht => by obtain ⟨x, hx⟩ := so_shape ht; exact ⟨x, hx, trivial⟩)
  obtain ⟨aO, nO, cO, e9, l9⟩ := slice_len Try.underlying30 h9
  simp only [List.cons.injEq, and_true] at e0 e1 e2 e3 e4 e5 e6 e7 e8 e9
  subst e0; subst e1; subst e2; subst e3; subst e4; subst e5; subst e6; subst e7; subst e8; subst e9
  refine ⟨⟨aA, nA, cA, aI, nI, cI, aU, nU, cU, aR, ro, cR, aS, nS, cS, aE, ev, cE, aG, gu, cG, aM, mi, cM, aD, so, cD, aO, nO, cO⟩, ?_, ⟨r3, r5, r6, r7, r8, ⟨l0, l1, l2, l3, l4, l5, l6, l7, l8, l9⟩, g3⟩⟩
  rw [← Array.toArray_toList (xs := cs), hcs]; rfl
set_option maxRecDepth 100000 in
theorem state_in {v : Value} {d : DataW H} {p : List MemPlace} (hv : Value.okWide Try.prog W .any 0 35 v) (h : DataW.Trod enc Try.prog W 0 (fun _ => true) true 35 v d p) : ∃ s : SC, v = .agg (sA s) ∧ GoodS W s := by
  obtain ⟨cs, rfl, _⟩ := okWide_struct Try.underlying35 hv
  obtain ⟨fuel, h⟩ := h
  replace h : DataW.trod enc Try.prog W 0 (fun _ => true) true fuel 35 cs.toList = some (d, p) := h
  obtain ⟨hl, n, hf⟩ := field_of Try.underlying35 h
  rw [kk35] at hl
  obtain ⟨a0, a1, a2, a3, a4, hcs⟩ := five cs.toList hl
  rw [hcs] at hf
  obtain ⟨z0, h0⟩ := field_at hf 0 23 0 1 rfl kk23
  obtain ⟨z1, h1⟩ := field_at hf 1 3 1 1 rfl k3
  obtain ⟨z2, h2⟩ := field_at hf 2 3 2 1 rfl k3
  obtain ⟨z3, h3⟩ := field_at hf 3 33 3 1 rfl k33
  obtain ⟨z4, h4⟩ := field_at hf 4 33 4 1 rfl k33
  simp only [List.drop_zero, List.drop_succ_cons, List.take_succ_cons, List.take_zero] at h0 h1 h2 h3 h4
  obtain ⟨aV, nV, cV, e0, l0⟩ := slice_len Try.underlying23 h0
  obtain ⟨op, e1, i1⟩ := int_shape h1
  obtain ⟨dn, e2, i2⟩ := int_shape h2
  obtain ⟨aD, cD, did, e3, l3, r3, g3⟩ := slice_row Try.underlying33 k3 (by omega) h3 inC (fun _ => rfl) inR (fun _ _ _ ht => int_shape ht)
  obtain ⟨aC, cC, cnt, e4, l4, r4, _⟩ := slice_row Try.underlying33 k3 (by omega) h4 inC (fun _ => rfl) inR (fun _ _ _ ht => int_shape ht)
  simp only [inC, List.cons.injEq, and_true] at e0 e1 e2 e3 e4
  subst e0; subst e1; subst e2; subst e3; subst e4
  refine ⟨⟨aV, nV, cV, op, dn, aD, did, cD, aC, cnt, cC⟩, ?_, ⟨r3, r4, ⟨l0, l3, l4⟩, i1, i2, g3⟩⟩
  rw [← Array.toArray_toList (xs := cs), hcs]; rfl
set_option maxRecDepth 100000 in
theorem pair_in {v : Value} {d : DataW H} {p : List MemPlace} (hv : Value.okWide Try.prog W .any 0 43 v) (h : DataW.Trod enc Try.prog W 0 (fun _ => true) true 43 v d p) : ∃ e u : Int, v = .agg #[.int .i64 e, .int .i64 u] := by
  have hcs : ∃ cs, v = .agg cs := by
    simp only [Value.okWide, Try.underlying43] at hv
    obtain ⟨cs, h1, _⟩ := hv
    exact ⟨cs, h1⟩
  obtain ⟨cs, rfl⟩ := hcs
  obtain ⟨fuel, h⟩ := h
  replace h : DataW.trod enc Try.prog W 0 (fun _ => true) true fuel 43 cs.toList = some (d, p) := h
  obtain ⟨xs, n, _, _, hl, hx, hf⟩ := DataW.trod_array Try.underlying43 h
  rw [show Try.prog.cellsOf 43 = 2 by kernel_rfl] at hl
  obtain ⟨a0, a1, hcs⟩ := two' cs.toList hl
  rw [hcs, k3] at hf
  have h0 := hf 0 (by omega)
  have h1 := hf 1 (by omega)
  rw [List.getElem?_eq_getElem (by omega)] at h0 h1
  simp only [Nat.zero_mul, Nat.one_mul, List.drop_zero, List.drop_succ_cons, List.take_succ_cons, List.take_zero] at h0 h1
  obtain ⟨e, e0, _⟩ := int_shape h0
  obtain ⟨u, e1, _⟩ := int_shape h1
  simp only [inC, List.cons.injEq, and_true] at e0 e1
  subst e0; subst e1
  refine ⟨e, u, ?_⟩
  rw [← Array.toArray_toList (xs := cs), hcs]
end
end Go.Proofs.Ytfnpfkjdcchipaa
