/- The row of BindFits: whatever statements and items come in, what is bound to names is a formula of a model that has as much of each kind as there are names, just if it was one as items. -/
import Derived.Test.YtpppgnphblbbcaaLaw
import Derived.Test.YtpppgnphblbbcaaBnArgs
import Derived.Test.YtpppgnphblbbcaaBfLaw
namespace Go.Proofs.Ytpppgnphblbbcaa
open Go.ChangeShapes Go.WideShapes Go.ChangeAt Go.RowKit

set_option maxRecDepth 100000 in
theorem bindFits_lifted (os : Os) (started : os.Started) (H : Type) (enc : TypeId × Value → H) :
    ReturnsInHanded {} Try.checked os 15 .any (Rows.bindFitsSpec.pre6 enc Try.prog Try.f15 Rows.bindFitsRow.domain false) (Rows.bindFitsSpec.post enc Try.prog Try.f15 false true false false) := by
  refine law_lifted started enc 15 Try.f15 Rows.bindFitsSpec [22, 33, 4] (by kernel_rfl) Try.func15 (by kernel_rfl) rfl (by kernel_rfl) (fun i => by rw [Try.params15]; simp) ?_ ?_
    (ChangeSpec.witness6 (enc := enc) (C := Try.checked) false ⟨#[], #[.slice none 0 0, .slice none 0 0, .bool false], []⟩ 8 (by kernel_rfl) (by kernel_rfl) (by kernel_rfl) (by kernel_rfl)) ?_
  · intro ds h
    match ds, h with
    | [d0, d1, d2], _ => rfl
  · intro t ht
    simp only [List.mem_cons, List.not_mem_nil, or_false] at ht
    rcases ht with rfl | rfl | rfl
    · exact ⟨by kernel_rfl, of_decide_eq_true (by kernel_rfl)⟩
    · exact ⟨by kernel_rfl, of_decide_eq_true (by kernel_rfl)⟩
    · exact ⟨by kernel_rfl, of_decide_eq_true (by kernel_rfl)⟩
  · rintro W base args ds p ⟨hval, hA, hsz⟩
    obtain ⟨v0, vs0, d0, ds0, p0, q0, hargs, rfl, rfl, h0, r0⟩ := trodAll_cons hA
    obtain ⟨v1, vs1, d1, ds1, p1, q1, rfl, rfl, rfl, h1, r1⟩ := trodAll_cons r0
    obtain ⟨v2, vs2, d2, ds2, p2, q2, rfl, rfl, rfl, h2, r2⟩ := trodAll_cons r1
    obtain ⟨rfl, rfl, rfl⟩ := trodAll_nil r2
    obtain rfl : args = #[v0, v1, v2] := by cases args; simp_all
    obtain ⟨A, n, c, rfl⟩ := okWide_slice Try.underlying22 (hval 0 22 v0 rfl rfl)
    obtain ⟨l, rfl, hl, hr, hz⟩ := stms_in h0
    obtain ⟨B, m, d, rfl⟩ := okWide_slice Try.underlying33 (hval 1 33 v1 rfl rfl)
    obtain ⟨f, rfl, hl2, hr2, hz2⟩ := items_in h1
    obtain ⟨prop, rfl⟩ := okWide_bool Try.underlying4 (hval 2 4 v2 rfl rfl)
    exact (law_fits W A c l B d f prop hl hl2 hr hz hr2 hz2).mono fun _ _ ⟨h, hc⟩ => ⟨h, hc.below (Nat.le_refl _) (fun _ h => h.elim)⟩

theorem bindFits_holds : Rows.BindFitsSaid :=
  OpenClaim.holds_of_wide 15 Try.f15 rfl rfl rfl rfl rfl rfl rfl ⟨rfl, rfl, rfl, rfl, rfl⟩ rfl rfl rfl rfl rfl (by kernel_rfl) Try.func15 (by kernel_rfl)
    (of_decide_eq_true (by kernel_rfl)) (by unfold Func.isWrapper; rw [if_neg (of_decide_eq_false (by kernel_rfl))]; exact ⟨rfl, rfl⟩)
    (fun os started H enc _ => bindFits_lifted os started H enc)
#print axioms bindFits_holds
end Go.Proofs.Ytpppgnphblbbcaa
