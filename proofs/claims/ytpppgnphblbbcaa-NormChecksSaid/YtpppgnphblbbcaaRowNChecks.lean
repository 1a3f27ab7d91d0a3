/- The row of NormChecks: whatever steps come in, the program says of them what the document says: whether they may be. -/
import Derived.Test.YtpppgnphblbbcaaLaw
import Derived.Test.YtpppgnphblbbcaaNoArgs
import Derived.Test.YtpppgnphblbbcaaNoLaw1
namespace Go.Proofs.Ytpppgnphblbbcaa
open Go.ChangeShapes Go.WideShapes Go.ChangeAt Go.RowKit Go.Deep

set_option maxRecDepth 100000 in
theorem normChecks_lifted (os : Os) (started : os.Started) (H : Type) (enc : TypeId × Value → H) :
    ReturnsInHanded {} Try.checked os 13 .any (Rows.normChecksSpec.pre6 enc Try.prog Try.f13 Rows.normChecksRow.domain false) (Rows.normChecksSpec.post enc Try.prog Try.f13 false true false false) := by
  refine law_lifted started enc 13 Try.f13 Rows.normChecksSpec [72] (by kernel_rfl) Try.func13 (by kernel_rfl) rfl (by kernel_rfl) (fun i => by rw [Try.params13]; simp) ?_ ?_
    (ChangeSpec.witness6 (enc := enc) (C := Try.checked) false ⟨#[], #[.slice none 0 0], []⟩ 8 (by kernel_rfl) (by kernel_rfl) (by kernel_rfl) (by kernel_rfl)) ?_
  · intro ds h
    match ds, h with
    | [d0], _ => rfl
  · intro t ht
    simp only [List.mem_cons, List.not_mem_nil, or_false] at ht
    subst ht
    exact ⟨by kernel_rfl, of_decide_eq_true (by kernel_rfl)⟩
  · rintro W base args ds p ⟨hval, hA, hsz⟩
    obtain ⟨v0, vs0, d0, ds0, p0, q0, hargs, rfl, rfl, h0, r0⟩ := trodAll_cons hA
    obtain ⟨rfl, rfl, rfl⟩ := trodAll_nil r0
    obtain rfl : args = #[v0] := by cases args; simp_all
    obtain ⟨A, n, c, rfl⟩ := okWide_slice Try.underlying72 (hval 0 72 v0 rfl rfl)
    obtain ⟨L, rfl, hl, hr, _⟩ := steps_in h0
    have hby := slice_bytes (j := 0) Try.underlying72 bytes79 h0 hsz rfl rfl
    exact (law_normChecks W A c L hl hby hr).mono fun _ _ ⟨h, hc⟩ => ⟨h, hc.below (Nat.le_refl _) (fun _ h => h.elim)⟩

theorem normChecks_holds : Rows.NormChecksSaid :=
  OpenClaim.holds_of_wide 13 Try.f13 rfl rfl rfl rfl rfl rfl rfl ⟨rfl, rfl, rfl, rfl, rfl⟩ rfl rfl rfl rfl rfl (by kernel_rfl) Try.func13 (by kernel_rfl)
    (of_decide_eq_true (by kernel_rfl)) (by unfold Func.isWrapper; rw [if_neg (of_decide_eq_false (by kernel_rfl))]; exact ⟨rfl, rfl⟩)
    (fun os started H enc _ => normChecks_lifted os started H enc)
#print axioms normChecks_holds
end Go.Proofs.Ytpppgnphblbbcaa
