/- The row of BindFormulas. -/
import Derived.Test.YtpppgnphblbbcaaLaw
import Derived.Test.YtpppgnphblbbcaaBnLaw
import Derived.Test.YtpppgnphblbbcaaBnArgs
namespace Go.Proofs.Ytpppgnphblbbcaa
open Go.ChangeShapes Go.WideShapes Go.ChangeAt Go.RowKit

set_option maxRecDepth 100000 in
theorem bindFormulas_lifted (os : Os) (started : os.Started) (H : Type) (enc : TypeId × Value → H) :
    ReturnsInHanded {} Try.checked os 6 .any (Rows.bindFormulasSpec.pre6 enc Try.prog Try.f6 Rows.bindFormulasRow.domain false) (Rows.bindFormulasSpec.post enc Try.prog Try.f6 false true false false) := by
  refine law_lifted started enc 6 Try.f6 Rows.bindFormulasSpec [22, 33] (by kernel_rfl) Try.func6 (by kernel_rfl) rfl (by kernel_rfl) (fun i => by rw [Try.params6]; simp) ?_ ?_
    (ChangeSpec.witness6 (enc := enc) (C := Try.checked) false ⟨#[], #[.slice none 0 0, .slice none 0 0], []⟩ 8 (by kernel_rfl) (by kernel_rfl) (by kernel_rfl) (by kernel_rfl)) ?_
  · intro ds h
    match ds, h with
    | [d0, d1], _ => rfl
  · intro t ht
    simp only [List.mem_cons, List.not_mem_nil, or_false] at ht
    rcases ht with rfl | rfl
    · exact ⟨by kernel_rfl, of_decide_eq_true (by kernel_rfl)⟩
    · exact ⟨by kernel_rfl, of_decide_eq_true (by kernel_rfl)⟩
  · rintro W base args ds p ⟨hval, hA, hsz⟩
    obtain ⟨v0, vs0, d0, ds0, p0, q0, hargs, rfl, rfl, h0, r0⟩ := trodAll_cons hA
    obtain ⟨v1, vs1, d1, ds1, p1, q1, rfl, rfl, rfl, h1, r1⟩ := trodAll_cons r0
    obtain ⟨rfl, rfl, rfl⟩ := trodAll_nil r1
    obtain rfl : args = #[v0, v1] := by cases args; simp_all
    obtain ⟨A, n, c, rfl⟩ := okWide_slice Try.underlying22 (hval 0 22 v0 rfl rfl)
    obtain ⟨l, rfl, _, hr, hz⟩ := stms_in h0
    obtain ⟨B, m, d, rfl⟩ := okWide_slice Try.underlying33 (hval 1 33 v1 rfl rfl)
    obtain ⟨f, rfl, _, hr2, hz2⟩ := items_in h1
    exact law_formulas W A c l B d f hr hz hr2 hz2

theorem bindFormulas_holds : Rows.BindFormulasSaid :=
  OpenClaim.holds_of_wide 6 Try.f6 rfl rfl rfl rfl rfl rfl rfl ⟨rfl, rfl, rfl, rfl, rfl⟩ rfl rfl rfl rfl rfl (by kernel_rfl) Try.func6 (by kernel_rfl)
    (of_decide_eq_true (by kernel_rfl)) (by unfold Func.isWrapper; rw [if_neg (of_decide_eq_false (by kernel_rfl))]; exact ⟨rfl, rfl⟩)
    (fun os started H enc _ => bindFormulas_lifted os started H enc)
#print axioms bindFormulas_holds
end Go.Proofs.Ytpppgnphblbbcaa
