/- The row of TreeChecks. -/
import Derived.Test.YtpppgnphblbbcaaLaw
import Derived.Test.YtpppgnphblbbcaaTrLawA
import Derived.Test.YtpppgnphblbbcaaBnArgs
namespace Go.Proofs.Ytpppgnphblbbcaa
open Go.ChangeShapes Go.WideShapes Go.ChangeAt Go.RowKit

set_option maxRecDepth 100000 in
theorem treeChecks_lifted (os : Os) (started : os.Started) (H : Type) (enc : TypeId × Value → H) :
    ReturnsInHanded {} Try.checked os 7 .any (Rows.treeChecksSpec.pre6 enc Try.prog Try.f7 Rows.treeChecksRow.domain false) (Rows.treeChecksSpec.post enc Try.prog Try.f7 false true false false) := by
  refine law_lifted started enc 7 Try.f7 Rows.treeChecksSpec [33] (by kernel_rfl) Try.func7 (by kernel_rfl) rfl (by kernel_rfl) (fun i => by rw [Try.params7]; simp) ?_ ?_
    (ChangeSpec.witness6 (enc := enc) (C := Try.checked) false ⟨#[], #[.slice none 0 0], []⟩ 8 (by kernel_rfl) (by kernel_rfl) (by kernel_rfl) (by kernel_rfl)) ?_
  · intro ds h
    match ds, h with
    | [d0], _ => rfl
  · intro t ht
    simp only [List.mem_cons, List.not_mem_nil, or_false] at ht
    subst ht
    exact ⟨by kernel_rfl, of_decide_eq_true (by kernel_rfl)⟩
  · rintro W base args ds p ⟨hval, hA, hsz⟩
    obtain ⟨v0, vs0, d0, ds0, p0, q0, hargs, rfl, rfl, h0, r0⟩ := trodAll_cons hA
    obtain ⟨rfl, rfl, rfl⟩ := trodAll_nil r0
    obtain rfl : args = #[v0] := by cases args; simp_all
    obtain ⟨A, n, c, rfl⟩ := okWide_slice Try.underlying33 (hval 0 33 v0 rfl rfl)
    obtain ⟨f, rfl, hl, hr, _⟩ := items_in h0
    exact law_checks W A c f hl hr

theorem treeChecks_holds : Rows.TreeChecksSaid :=
  OpenClaim.holds_of_wide 7 Try.f7 rfl rfl rfl rfl rfl rfl rfl ⟨rfl, rfl, rfl, rfl, rfl⟩ rfl rfl rfl rfl rfl (by kernel_rfl) Try.func7 (by kernel_rfl)
    (of_decide_eq_true (by kernel_rfl)) (by unfold Func.isWrapper; rw [if_neg (of_decide_eq_false (by kernel_rfl))]; exact ⟨rfl, rfl⟩)
    (fun os started H enc _ => treeChecks_lifted os started H enc)
#print axioms treeChecks_holds

end Go.Proofs.Ytpppgnphblbbcaa
