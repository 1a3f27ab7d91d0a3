/- The row of RightsLess: whatever model, state, event and user come in, what is enabled is free, in a stuck state nothing is enabled, and without duties that are apart all that is free is enabled, and no state is stuck. -/
import Derived.Test.YtfnpfkjdcchipaaLaw
import Derived.Test.YtfnpfkjdcchipaaRtIn
import Derived.Test.YtfnpfkjdcchipaaRtLaw4
namespace Go.Proofs.Ytfnpfkjdcchipaa
open Go.ChangeShapes Go.WideShapes Go.ChangeAt Go.RowKit Go.Deep

set_option maxRecDepth 100000 in
theorem rightsLess_lifted (os : Os) (started : os.Started) (H : Type) (enc : TypeId × Value → H) :
    ReturnsInHanded {} Try.checked os 4 .any (Rows.rightsLessSpec.pre6 enc Try.prog Try.f4 Rows.rightsLessRow.domain false) (Rows.rightsLessSpec.post enc Try.prog Try.f4 false true false false) := by
  refine law_lifted started enc 4 Try.f4 Rows.rightsLessSpec [32, 35, 43] (by kernel_rfl) Try.func4 (by kernel_rfl) rfl (by kernel_rfl) (fun i => by rw [Try.params4]; simp) ?_ ?_
    (ChangeSpec.witness6 (enc := enc) (C := Try.checked) false ⟨#[], #[.agg #[.slice none 0 0, .slice none 0 0, .slice none 0 0, .slice none 0 0, .slice none 0 0, .slice none 0 0, .slice none 0 0, .slice none 0 0, .slice none 0 0, .slice none 0 0], .agg #[.slice none 0 0, .int .i64 0, .int .i64 0, .slice none 0 0, .slice none 0 0], .agg #[.int .i64 0, .int .i64 0]], []⟩ 8 (by kernel_rfl) (by kernel_rfl) (by kernel_rfl) (by kernel_rfl)) ?_
  · intro ds h
    match ds, h with
    | [d0, d1, d2], _ => rfl
  · intro t ht
    simp only [List.mem_cons, List.not_mem_nil, or_false] at ht
    rcases ht with rfl | rfl | rfl
    · exact ⟨by kernel_rfl, of_decide_eq_true (by kernel_rfl)⟩
    · exact ⟨by kernel_rfl, of_decide_eq_true (by kernel_rfl)⟩
    · exact ⟨by kernel_rfl, of_decide_eq_true (by kernel_rfl)⟩
  · rintro W base args ds p ⟨hval, hA, hsz⟩
    obtain ⟨v0, vs0, d0, ds0, p0, q0, hargs, rfl, rfl, h0, r0⟩ := trodAll_cons hA
    obtain ⟨v1, vs1, d1, ds1, p1, q1, rfl, rfl, rfl, h1, r1⟩ := trodAll_cons r0
    obtain ⟨v2, vs2, d2, ds2, p2, q2, rfl, rfl, rfl, h2, r2⟩ := trodAll_cons r1
    obtain ⟨rfl, rfl, rfl⟩ := trodAll_nil r2
    obtain rfl : args = #[v0, v1, v2] := by cases args; simp_all
    obtain ⟨m, rfl, gm⟩ := model_in (hval 0 32 v0 rfl rfl) h0
    obtain ⟨s, rfl, gs⟩ := state_in (hval 1 35 v1 rfl rfl) h1
    obtain ⟨e, u, rfl⟩ := pair_in (hval 2 43 v2 rfl rfl) h2
    exact (law_less W m s e u (good_of gm gs)).mono fun _ _ ⟨h, hc⟩ => ⟨h, hc.below (Nat.le_refl _) (fun _ h => h.elim)⟩

theorem rightsLess_holds : Rows.RightsLessSaid :=
  OpenClaim.holds_of_wide 4 Try.f4 rfl rfl rfl rfl rfl rfl rfl ⟨rfl, rfl, rfl, rfl, rfl⟩ rfl rfl rfl rfl rfl (by kernel_rfl) Try.func4 (by kernel_rfl)
    (of_decide_eq_true (by kernel_rfl)) (by unfold Func.isWrapper; rw [if_neg (of_decide_eq_false (by kernel_rfl))]; exact ⟨rfl, rfl⟩)
    (fun os started H enc _ => rightsLess_lifted os started H enc)
#print axioms rightsLess_holds
end Go.Proofs.Ytfnpfkjdcchipaa
