/- The row of NormFew: whatever instructions come in, the steps of a formula may be, none stands twice, none is not of not, and there are no more than eight for each item. -/
import Derived.Test.YtpppgnphblbbcaaLaw
import Derived.Test.YtpppgnphblbbcaaNoArgs
import Derived.Test.YtpppgnphblbbcaaNoLaw2
namespace Go.Proofs.Ytpppgnphblbbcaa
open Go.ChangeShapes Go.WideShapes Go.ChangeAt Go.RowKit Go.Deep

set_option maxRecDepth 100000 in
theorem normFew_lifted (os : Os) (started : os.Started) (H : Type) (enc : TypeId × Value → H) :
    ReturnsInHanded {} Try.checked os 14 .any (Rows.normFewSpec.pre6 enc Try.prog Try.f14 Rows.normFewRow.domain false) (Rows.normFewSpec.post enc Try.prog Try.f14 false true false false) := by
  refine law_lifted started enc 14 Try.f14 Rows.normFewSpec [49] (by kernel_rfl) Try.func14 (by kernel_rfl) rfl (by kernel_rfl) (fun i => by rw [Try.params14]; simp) ?_ ?_
    (ChangeSpec.witness6 (enc := enc) (C := Try.checked) false ⟨#[], #[.slice none 0 0], []⟩ 8 (by kernel_rfl) (by kernel_rfl) (by kernel_rfl) (by kernel_rfl)) ?_
  · intro ds h
    match ds, h with
    | [d0], _ => rfl
  · intro t ht
    simp only [List.mem_cons, List.not_mem_nil, or_false] at ht
    subst ht
    exact ⟨by kernel_rfl, of_decide_eq_true (by kernel_rfl)⟩
  · rintro W base args ds p ⟨hval, hA, hsz⟩
    obtain ⟨v0, vs0, d0, ds0, p0, q0, hargs, rfl, rfl, h0, r0⟩ := trodAll_cons hA
    obtain ⟨rfl, rfl, rfl⟩ := trodAll_nil r0
    obtain rfl : args = #[v0] := by cases args; simp_all
    obtain ⟨A, n, c, rfl⟩ := okWide_slice Try.underlying49 (hval 0 49 v0 rfl rfl)
    obtain ⟨f, rfl, hl, hr, hok⟩ := inss_in h0
    exact (law_normFew W A c f hl hr hok).mono fun _ _ ⟨h, hc⟩ => ⟨h, hc.below (Nat.le_refl _) (fun _ h => h.elim)⟩

theorem normFew_holds : Rows.NormFewSaid :=
  OpenClaim.holds_of_wide 14 Try.f14 rfl rfl rfl rfl rfl rfl rfl ⟨rfl, rfl, rfl, rfl, rfl⟩ rfl rfl rfl rfl rfl (by kernel_rfl) Try.func14 (by kernel_rfl)
    (of_decide_eq_true (by kernel_rfl)) (by unfold Func.isWrapper; rw [if_neg (of_decide_eq_false (by kernel_rfl))]; exact ⟨rfl, rfl⟩)
    (fun os started H enc _ => normFew_lifted os started H enc)
#print axioms normFew_holds
end Go.Proofs.Ytpppgnphblbbcaa
