/- table.Sum gives the reference's sum of every text of at most 3000 bytes, and TableSums returns true for every input: no condition. -/
import Derived.Test.YtjdchelgpniliaaAwake
import Derived.Test.YtjdchelgpniliaaLaw
namespace Go.Proofs.Ytjdchelgpniliaa
open Go.ChangeShapes Go.WideShapes Go.ChangeAt Go.RowKit
open Go.ChangeMaps (open_string)

set_option maxRecDepth 100000 in
theorem tableSums_lifted (os : Os) (started : os.Started) (H : Type) (enc : TypeId × Value → H) :
    ReturnsInHanded {} Try.checked os 3 .any (Rows.tableSumsSpec.pre6 enc Try.prog Try.f3 Rows.tableSumsRow.domain false) (Rows.tableSumsSpec.post enc Try.prog Try.f3 false true false false) := by
  refine law_lifted started enc 3 Try.f3 Rows.tableSumsSpec [9] (by kernel_rfl) Try.func3 (by kernel_rfl) rfl (by kernel_rfl) (fun i => by rw [Try.params3]; simp) ?_ ?_
    (ChangeSpec.witness6 (enc := enc) (C := Try.checked) false ⟨#[], #[.string ⟨#[]⟩], []⟩ 8 (by kernel_rfl) (by kernel_rfl) (by kernel_rfl) (by kernel_rfl)) ?_
  · intro ds h
    match ds, h with
    | [d], _ => rfl
  · intro t ht
    simp only [List.mem_cons, List.not_mem_nil, or_false] at ht
    subst ht
    exact ⟨by kernel_rfl, of_decide_eq_true (by kernel_rfl)⟩
  · rintro W base args ds p ⟨hval, hA, _⟩
    obtain ⟨v0, vs0, d0, ds0, p0, q0, hargs, rfl, rfl, h0, r0⟩ := trodAll_cons hA
    obtain ⟨rfl, rfl, rfl⟩ := trodAll_nil r0
    obtain rfl : args = #[v0] := by cases args; simp_all
    obtain ⟨s, rfl, rfl, rfl, hs⟩ := open_string Try.underlying9 (hval 0 9 v0 rfl rfl) h0
    refine (law_sums W s hs).mono fun e W' ⟨he, hc⟩ => ⟨he, hc.below (Nat.le_refl _) (fun k hk => hk.elim)⟩

theorem tableSums_holds : Rows.TableSumsSaid :=
  OpenClaim.holds_of_wide 3 Try.f3 rfl rfl rfl rfl rfl rfl rfl ⟨rfl, rfl, rfl, rfl, rfl⟩ rfl rfl rfl rfl rfl (by kernel_rfl) Try.func3 (by kernel_rfl)
    (of_decide_eq_true (by kernel_rfl)) (by unfold Func.isWrapper; rw [if_neg (of_decide_eq_false (by kernel_rfl))]; exact ⟨rfl, rfl⟩)
    (fun os started H enc _ => tableSums_lifted os started H enc)
#print axioms tableSums_holds
end Go.Proofs.Ytjdchelgpniliaa
