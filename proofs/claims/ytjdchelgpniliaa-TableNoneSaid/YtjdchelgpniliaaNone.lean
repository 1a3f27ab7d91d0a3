/- A table that no call made has nothing, and takes nothing: TableNone returns true for every input: no condition. -/
import Derived.Test.YtjdchelgpniliaaAwake
import Derived.Test.YtjdchelgpniliaaLaw
namespace Go.Proofs.Ytjdchelgpniliaa
open Go.ChangeShapes Go.WideShapes Go.ChangeAt Go.RowKit
open Go.ChangeMaps (open_string)

set_option maxRecDepth 100000 in
set_option maxHeartbeats 800000 in
theorem law_none (w : World) (s : ByteArray) (n : Int) : Calls Try.prog 6 #[.string s, .int .i64 n] w fun e w' => e = .returned (.bool true) ∧ Chg (fun _ => False) w w' := by
  have B := Blk.new w 40 #[.slice none 0 0, .slice none 0 0, .slice none 0 0]
  have c0 : (w.alloc (.cells #[.slice none 0 0, .slice none 0 0, .slice none 0 0] 40)).cell? ⟨w.heap.size, 0, none⟩ = some (.slice none 0 0) := by rw [B.cell]; rfl
  have c2 : (w.alloc (.cells #[.slice none 0 0, .slice none 0 0, .slice none 0 0] 40)).cell? ⟨w.heap.size, 2, none⟩ = some (.slice none 0 0) := by rw [B.cell]; rfl
  have hn : Hid (n < 0 ∨ ((0 : Nat) : Int) ≤ n) := by show n < 0 ∨ ((0 : Nat) : Int) ≤ n; omega
  have hs := str_same ⟨#[]⟩
  have hC := Lib.hid ((Chg.refl (fun _ => False) w).alloc (.cells #[.slice none 0 0, .slice none 0 0, .slice none 0 0] 40))
  clear B
  go_enter Try.func6, Try.ntmps6
  go_wp2_with fail
  refine (put_none _ _).mono ?_
  rintro e w' ⟨rfl, rfl⟩
  go_wp2_with fail
  refine (put_zero _ _ _ _ _ c0).mono ?_
  rintro e w' ⟨rfl, rfl⟩
  go_wp2_with fail
  refine (find_none _ _).mono ?_
  rintro e w' ⟨rfl, rfl⟩
  go_wp2_with fail
  refine (find_zero _ _ _ _ _ c0).mono ?_
  rintro e w' ⟨rfl, rfl⟩
  go_wp2_with fail
  refine (len_nil _).mono ?_
  rintro e w' ⟨rfl, rfl⟩
  go_wp2_with fail
  refine (len_any _ _ _ _ _ c2).mono ?_
  rintro e w' ⟨rfl, rfl⟩
  go_wp2_with fail
  refine (text_nil _ _).mono ?_
  rintro e w' ⟨rfl, rfl⟩
  go_wp2_with fail
  refine (text_out _ _ _ _ _ _ c2 hn.out).mono ?_
  rintro e w' ⟨rfl, rfl⟩
  go_wp2_with fail
  refine (awake_any _).mono ?_
  rintro e w' ⟨rfl, hA⟩
  have hA2 := Lib.hid (Chg.trans hC.out hA (fun _ _ h => h))
  clear hA
  go_wp2_with fail
  go_ret
  exact ⟨rfl, hA2.out⟩

set_option maxRecDepth 100000 in
theorem tableNone_lifted (os : Os) (started : os.Started) (H : Type) (enc : TypeId × Value → H) :
    ReturnsInHanded {} Try.checked os 6 .any (Rows.tableNoneSpec.pre6 enc Try.prog Try.f6 Rows.tableNoneRow.domain false) (Rows.tableNoneSpec.post enc Try.prog Try.f6 false true false false) := by
  refine law_lifted started enc 6 Try.f6 Rows.tableNoneSpec [9, 3] (by kernel_rfl) Try.func6 (by kernel_rfl) rfl (by kernel_rfl) (fun i => by rw [Try.params6]; simp) ?_ ?_
    (ChangeSpec.witness6 (enc := enc) (C := Try.checked) false ⟨#[], #[.string ⟨#[]⟩, .int .i64 0], []⟩ 8 (by kernel_rfl) (by kernel_rfl) (by kernel_rfl) (by kernel_rfl)) ?_
  · intro ds h
    match ds, h with
    | [d, e], _ => rfl
  · intro t ht
    simp only [List.mem_cons, List.not_mem_nil, or_false] at ht
    rcases ht with rfl | rfl
    · exact ⟨by kernel_rfl, of_decide_eq_true (by kernel_rfl)⟩
    · exact ⟨by kernel_rfl, of_decide_eq_true (by kernel_rfl)⟩
  · rintro W base args ds p ⟨hval, hA, _⟩
    obtain ⟨v0, vs0, d0, ds0, p0, q0, hargs, rfl, rfl, h0, r0⟩ := trodAll_cons hA
    obtain ⟨v1, vs1, d1, ds1, p1, q1, rfl, rfl, rfl, h1, r1⟩ := trodAll_cons r0
    obtain ⟨rfl, rfl, rfl⟩ := trodAll_nil r1
    obtain rfl : args = #[v0, v1] := by cases args; simp_all
    obtain ⟨s, rfl, rfl, rfl, hs⟩ := open_string Try.underlying9 (hval 0 9 v0 rfl rfl) h0
    obtain ⟨n, rfl, rfl, rfl, wn⟩ := open_int Try.underlying3 (hval 1 3 v1 rfl rfl) h1
    exact (law_none W s n).mono fun e W' ⟨he, hc⟩ => ⟨he, hc.below (Nat.le_refl _) (fun k hk => hk.elim)⟩

theorem tableNone_holds : Rows.TableNoneSaid :=
  OpenClaim.holds_of_wide 6 Try.f6 rfl rfl rfl rfl rfl rfl rfl ⟨rfl, rfl, rfl, rfl, rfl⟩ rfl rfl rfl rfl rfl (by kernel_rfl) Try.func6 (by kernel_rfl)
    (of_decide_eq_true (by kernel_rfl)) (by unfold Func.isWrapper; rw [if_neg (of_decide_eq_false (by kernel_rfl))]; exact ⟨rfl, rfl⟩)
    (fun os started H enc _ => tableNone_lifted os started H enc)
#print axioms tableNone_holds
end Go.Proofs.Ytjdchelgpniliaa
