/- A slice that came in, of whatever elements of a fixed number of cells: its elements, and where their cells lie. -/
import Derived.Test.YtpppgnphblbbcaaLib
import Derived.Deep.Slices
import Derived.ProofKit
namespace Go.Proofs.Ytpppgnphblbbcaa
open Go.ChangeShapes Go.WideShapes Go.ChangeAt Go.RowKit Go.Deep

theorem flat_len {α : Type} {C : Nat} (f : α → List Value) (hf : ∀ x, (f x).length = C) : ∀ l : List α, (l.flatMap f).length = l.length * C
  | [] => by simp
  | x :: l => by rw [List.flatMap_cons, List.length_append, hf, flat_len f hf l, List.length_cons, Nat.add_mul, Nat.one_mul, Nat.add_comm]
theorem flat_get {α : Type} {C : Nat} (f : α → List Value) (hf : ∀ x, (f x).length = C) : ∀ (l : List α) (i r : Nat) (hi : i < l.length), r < C → (l.flatMap f)[i * C + r]? = (f l[i])[r]?
  | x :: l, 0, r, _, hr => by
    rw [List.flatMap_cons, List.getElem?_append_left (by rw [hf]; omega)]
    simp
  | x :: l, i + 1, r, hi, hr => by
    have hm : (i + 1) * C = i * C + C := Nat.succ_mul i C
    rw [List.flatMap_cons, List.getElem?_append_right (by rw [hf]; omega), hf]
    have e : (i + 1) * C + r - C = i * C + r := by omega
    rw [e, flat_get f hf l i r (by simpa using hi) hr]
    rfl

theorem build_list {α : Type} {P : Nat → α → Prop} : ∀ n : Nat, (∀ i, i < n → ∃ x, P i x) → ∃ l : List α, l.length = n ∧ ∀ i (hi : i < l.length), P i l[i]
  | 0, _ => ⟨[], rfl, fun i hi => by simp at hi⟩
  | n + 1, h => by
    obtain ⟨l, hl, hP⟩ := build_list n (fun i hi => h i (by omega))
    obtain ⟨x, hx⟩ := h n (by omega)
    refine ⟨l ++ [x], by simp [hl], fun i hi => ?_⟩
    rw [List.length_append, List.length_singleton] at hi
    rcases Nat.lt_or_ge i l.length with h1 | h1
    · rw [List.getElem_append_left h1]; exact hP i h1
    · obtain rfl : i = l.length := by omega
      rw [List.getElem_append_right (Nat.le_refl _)]
      simpa [hl] using hx

theorem slice_in {H : Type} {enc : TypeId × Value → H} {P : Program} {W : World} {A : Option Addr} {n c : Nat} {d : DataW H} {p : List MemPlace} {t e : TypeId} {C : Nat} (ht : P.underlying t = some (.slice e)) (hC : P.cellsOf e = C) (hC0 : 0 < C)
    (h : DataW.Trod enc P W 0 (fun _ => true) true t (.slice A n c) d p) {α : Type} (f : α → List Value) (hf : ∀ x, (f x).length = C) (good : α → Prop)
    (each : ∀ (fuel : Nat) (cs : List Value) (y : DataW H × List MemPlace), DataW.trod enc P W 0 (fun _ => true) true fuel e cs = some y → ∃ x : α, cs = f x ∧ good x) :
    ∃ l : List α, n = l.length ∧ l.length ≤ maxLen ∧ Rd W W.heap.size A (l.flatMap f) ∧ ∀ x ∈ l, good x := by
  obtain ⟨fuel, hfu⟩ := h
  rcases open_slice ht hfu with ⟨hcs, _⟩ | ⟨a, len, cap, m, k, D, Pl, hcs, _, hl, hm, hmm, _, hi⟩
  · simp only [Value.cells, List.cons.injEq, and_true] at hcs
    injection hcs with h1 h2 h3
    subst h1; subst h2
    exact ⟨[], rfl, by simp, fun h => by simp at h, fun t h => by simp at h⟩
  · simp only [Value.cells, List.cons.injEq, and_true] at hcs
    injection hcs with h1 h2 h3
    subst h1; subst h2; subst h3
    have hmc : m = c := by simpa using hmm
    subst hmc
    obtain ⟨l, hll, hP⟩ := build_list (P := fun i x => W.cells? 0 (a.add (i * C)) C = some (f x) ∧ good x) n (fun i hin => by
      obtain ⟨cs', hc, ht'⟩ := hi i (by omega)
      obtain ⟨x, rfl, hg⟩ := each _ _ _ ht'
      rw [hC] at hc
      exact ⟨x, hc, hg⟩)
    refine ⟨l, hll.symm, by omega, fun h0 => ?_, fun x hx => ?_⟩
    · rw [flat_len f hf] at h0
      have hl0 : 0 < l.length := Nat.pos_of_mul_pos_right h0
      have hcell : ∀ j u, (l.flatMap f)[j]? = some u → W.cell? (a.add j) = some u := by
        intro j u hu
        have hj : j < l.length * C := by have := (List.getElem?_eq_some_iff.1 hu).1; rwa [flat_len f hf] at this
        have hjd : j / C < l.length := (Nat.div_lt_iff_lt_mul hC0).2 hj
        have hjm : j % C < C := Nat.mod_lt _ hC0
        have he : j / C * C + j % C = j := by rw [Nat.mul_comm]; exact Nat.div_add_mod j C
        obtain ⟨hc, _⟩ := hP (j / C) hjd
        obtain ⟨_, _, hat⟩ := World.cells?_some hc
        have h1 := hat (j % C) hjm
        rw [add_of_add, he] at h1
        rw [h1, ← flat_get f hf l (j / C) (j % C) hjd hjm, he]
        exact hu
      refine ⟨a, rfl, ?_, hcell⟩
      have h00 : 0 < (l.flatMap f).length := by rw [flat_len f hf]; exact h0
      have := World.block_lt_of_cell? W _ (hcell 0 _ (List.getElem?_eq_getElem h00))
      rwa [block_of_add] at this
    · obtain ⟨i, hi2, rfl⟩ := List.getElem_of_mem hx
      exact (hP i hi2).2

/-- One cell's shape. -/
theorem cell_int {H : Type} {enc : TypeId × Value → H} {P : Program} {W : World} {b : Nat} {sp : Nat → Bool} {hd : Bool} {fuel : Nat} {t : TypeId} {cs : List Value} {y : DataW H × List MemPlace} {k : IntKind} (ht : P.underlying t = some (.int k)) (h : DataW.trod enc P W b sp hd fuel t cs = some y) : ∃ n, cs = [.int k n] := by
  obtain ⟨n, hc, _⟩ := DataW.trod_int ht h; exact ⟨n, hc⟩
theorem cell_slice {H : Type} {enc : TypeId × Value → H} {P : Program} {W : World} {b : Nat} {sp : Nat → Bool} {hd : Bool} {fuel : Nat} {t e : TypeId} {cs : List Value} {y : DataW H × List MemPlace} (ht : P.underlying t = some (.slice e)) (h : DataW.trod enc P W b sp hd fuel t cs = some y) : ∃ A n c, cs = [.slice A n c] := by
  rcases DataW.trod_slice ht h with ⟨hc, _⟩ | ⟨a, len, cap, _, _, _, _, hc, _⟩
  · exact ⟨_, _, _, hc⟩
  · exact ⟨_, _, _, hc⟩
/-- A struct's field: the cells that are its own. -/
theorem field_of {H : Type} {enc : TypeId × Value → H} {P : Program} {W : World} {b : Nat} {sp : Nat → Bool} {hd : Bool} {fuel : Nat} {t : TypeId} {fs : Array Field} {cs : List Value} {y : DataW H × List MemPlace} (ht : P.underlying t = some (.struct fs)) (h : DataW.trod enc P W b sp hd fuel t cs = some y) :
    cs.length = P.cellsOf t ∧ ∃ n, ∀ (i : Nat) (f : Field), fs[i]? = some f → ∃ z, DataW.trod enc P W b sp hd n f.type ((cs.drop f.offset).take (P.cellsOf f.type)) = some z := by
  obtain ⟨xs, n, _, _, hl, hx, hf⟩ := DataW.trod_struct ht h
  refine ⟨hl, n, fun i f hi => ?_⟩
  have hil : i < fs.size := (Array.getElem?_eq_some_iff.1 hi).1
  rw [hf i f hi]
  exact ⟨xs[i]'(by omega), List.getElem?_eq_getElem (by omega)⟩
theorem field_at {H : Type} {enc : TypeId × Value → H} {P : Program} {W : World} {b : Nat} {sp : Nat → Bool} {hd : Bool} {n : Nat} {fs : Array Field} {cs : List Value}
    (hf : ∀ (i : Nat) (f : Field), fs[i]? = some f → ∃ z, DataW.trod enc P W b sp hd n f.type ((cs.drop f.offset).take (P.cellsOf f.type)) = some z) (i T o k : Nat) (hT : (fs[i]?.map fun f => (f.type, f.offset)) = some (T, o)) (hk : P.cellsOf T = k) :
    ∃ z, DataW.trod enc P W b sp hd n T ((cs.drop o).take k) = some z := by
  obtain ⟨f, h1, h2⟩ := Option.map_eq_some_iff.1 hT
  injection h2 with h3 h4
  subst h3; subst h4; subst hk
  exact hf i f h1
end Go.Proofs.Ytpppgnphblbbcaa
