/- The row of TreePuts. -/
import Derived.Test.YtpppgnphblbbcaaLaw
import Derived.Test.YtpppgnphblbbcaaTrLawU
import Derived.Test.YtpppgnphblbbcaaBnArgs
namespace Go.Proofs.Ytpppgnphblbbcaa
open Go.ChangeShapes Go.WideShapes Go.ChangeAt Go.RowKit Go.Deep

theorem kc33 : Try.prog.cellsOf 33 = 1 := by kernel_rfl
theorem kid_shape {H : Type} {enc : TypeId × Value → H} {W : World} {fuel : Nat} {cs : List Value} {y : DataW H × List MemPlace} (h : DataW.trod enc Try.prog W 0 (fun _ => true) true fuel 33 cs = some y) : ∃ x : KidC, cs = [kidV x] ∧ KidOK W x := by
  obtain ⟨A, n, c, rfl⟩ := cell_slice Try.underlying33 h
  have hT : DataW.Trod enc Try.prog W 0 (fun _ => true) true 33 (.slice A n c) y.1 y.2 := ⟨fuel, h⟩
  obtain ⟨f, rfl, hl, hr, _⟩ := items_in hT
  refine ⟨⟨A, f, c⟩, rfl, hl, hr, fun hA => ?_⟩
  rcases open_slice Try.underlying33 h with ⟨hcs, _⟩ | ⟨a, len, cap, m, k, D, Pl, hcs, _, _, _, _, _, _⟩
  · simp only [List.cons.injEq, and_true] at hcs
    injection hcs with h1 h2 h3
    exact ⟨List.length_eq_zero_iff.1 h2, h3⟩
  · simp only [List.cons.injEq, and_true] at hcs
    injection hcs with h1 h2 h3
    have hA : A = none := hA
    rw [hA] at h1; cases h1
theorem kids_in {H : Type} {enc : TypeId × Value → H} {W : World} {A : Option Addr} {n c : Nat} {d : DataW H} {p : List MemPlace} (h : DataW.Trod enc Try.prog W 0 (fun _ => true) true 64 (.slice A n c) d p) :
    ∃ ks : List KidC, n = ks.length ∧ ks.length ≤ maxLen ∧ Rd W W.heap.size A (ks.flatMap fun k => [kidV k]) ∧ ∀ k ∈ ks, KidOK W k :=
  slice_in Try.underlying64 kc33 (by omega) h (fun k => [kidV k]) (fun _ => rfl) (KidOK W) (fun _ _ _ ht => kid_shape ht)

set_option maxRecDepth 100000 in
theorem treePuts_lifted (os : Os) (started : os.Started) (H : Type) (enc : TypeId × Value → H) :
    ReturnsInHanded {} Try.checked os 11 .any (Rows.treePutsSpec.pre6 enc Try.prog Try.f11 Rows.treePutsRow.domain false) (Rows.treePutsSpec.post enc Try.prog Try.f11 false true false false) := by
  refine law_lifted started enc 11 Try.f11 Rows.treePutsSpec [3, 64] (by kernel_rfl) Try.func11 (by kernel_rfl) rfl (by kernel_rfl) (fun i => by rw [Try.params11]; simp) ?_ ?_
    (ChangeSpec.witness6 (enc := enc) (C := Try.checked) false ⟨#[], #[.int .i64 0, .slice none 0 0], []⟩ 8 (by kernel_rfl) (by kernel_rfl) (by kernel_rfl) (by kernel_rfl)) ?_
  · intro ds h
    match ds, h with
    | [d0, d1], _ => rfl
  · intro t ht
    simp only [List.mem_cons, List.not_mem_nil, or_false] at ht
    rcases ht with rfl | rfl
    · exact ⟨by kernel_rfl, of_decide_eq_true (by kernel_rfl)⟩
    · exact ⟨by kernel_rfl, of_decide_eq_true (by kernel_rfl)⟩
  · rintro W base args ds p ⟨hval, hA, hsz⟩
    obtain ⟨v0, vs0, d0, ds0, p0, q0, hargs, rfl, rfl, h0, r0⟩ := trodAll_cons hA
    obtain ⟨v1, vs1, d1, ds1, p1, q1, rfl, rfl, rfl, h1, r1⟩ := trodAll_cons r0
    obtain ⟨rfl, rfl, rfl⟩ := trodAll_nil r1
    obtain rfl : args = #[v0, v1] := by cases args; simp_all
    obtain ⟨op, rfl, _, _⟩ := open_int Try.underlying3 (hval 0 3 v0 rfl rfl) h0
    obtain ⟨K, n, c, rfl⟩ := okWide_slice Try.underlying64 (hval 1 64 v1 rfl rfl)
    obtain ⟨ks, rfl, hl, hr, hk⟩ := kids_in h1
    exact law_puts W op K c ks hl (by rw [List.map_eq_flatMap]; exact hr) hk

theorem treePuts_holds : Rows.TreePutsSaid :=
  OpenClaim.holds_of_wide 11 Try.f11 rfl rfl rfl rfl rfl rfl rfl ⟨rfl, rfl, rfl, rfl, rfl⟩ rfl rfl rfl rfl rfl (by kernel_rfl) Try.func11 (by kernel_rfl)
    (of_decide_eq_true (by kernel_rfl)) (by unfold Func.isWrapper; rw [if_neg (of_decide_eq_false (by kernel_rfl))]; exact ⟨rfl, rfl⟩)
    (fun os started H enc _ => treePuts_lifted os started H enc)
#print axioms treePuts_holds

end Go.Proofs.Ytpppgnphblbbcaa
