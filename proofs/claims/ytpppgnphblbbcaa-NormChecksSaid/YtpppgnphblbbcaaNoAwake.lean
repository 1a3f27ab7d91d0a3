/- The walk of the example of chapter 31. -/
import Derived.Test.YtpppgnphblbbcaaNoSteps
namespace Go.Proofs.Ytpppgnphblbbcaa
open Go.RowKit

def f31 : List Nm.Inst := [⟨1, 0, 0, 0, 0, 0, 0⟩, ⟨23, 0, 0, 0, 0, 0, 0⟩]
theorem up31 : No.upTo f31 f31.length = ([⟨1, 0, 0, ⟨1, 0, 0, 0, 0, 0, 0⟩⟩, ⟨15, 0, 0, ⟨0, 0, 0, 0, 0, 0, 0⟩⟩, ⟨26, 0, 1, ⟨0, 0, 0, 0, 0, 0, 0⟩⟩, ⟨15, 2, 0, ⟨0, 0, 0, 0, 0, 0, 0⟩⟩], [3]) := by kernel_rfl
theorem chk31 : Tr.check (sgI f31) f31.length = 0 := by kernel_rfl
theorem rd_blk {w : World} {g : Nat} {t : TypeId} {xs : List Value} (h : Blk w g t xs.toArray) : Rd w w.heap.size (some ⟨g, 0, none⟩) xs := fun _ =>
  ⟨_, rfl, h.lt, fun j u hu => by rw [add_row, Nat.zero_add, h.cell]; simpa using hu⟩
set_option maxRecDepth 100000 in
set_option maxHeartbeats 4000000 in
theorem awake31_any (w : World) : Calls Try.prog 49 #[] w fun e w' => e = .returned (.bool true) ∧ Chg (fun _ => False) w w' := by
  have C1 := Lib.hid ((Chg.refl (fun _ => False) w).alloc (.cells (f31.flatMap instV7).toArray 77))
  have hb := Blk.new w 77 (f31.flatMap instV7).toArray
  have hst := Lib.hid (steps_any (w.alloc (.cells (f31.flatMap instV7).toArray 77)) (some ⟨w.heap.size, 0, none⟩) 2 f31 (by decide) (rd_blk hb) (by intro x hx; simp only [f31, List.mem_cons, List.not_mem_nil, or_false] at hx; unfold No.okI No.inR; rcases hx with rfl | rfl <;> (dsimp only; omega)))
  clear hb
  obtain ⟨w1, hw1⟩ : ∃ w1, w1 = w.alloc (.cells (f31.flatMap instV7).toArray 77) := ⟨_, rfl⟩
  rw [← hw1] at hst C1
  have hw : w.alloc (.cells #[.int .i64 1, .int .i64 0, .int .i64 0, .int .i64 0, .int .i64 0, .int .i64 0, .int .i64 0, .int .i64 23, .int .i64 0, .int .i64 0, .int .i64 0, .int .i64 0, .int .i64 0, .int .i64 0] 77) = w1 := hw1.symm
  clear hw1
  go_enter Try.func49, Try.ntmps49
  go_wp2_with fail
  clear hw
  refine Calls.mono hst.out ?_
  rintro e w2 ⟨hc, ⟨h0, rfl⟩ | ⟨h0, lv, n, rfl, hn, hown⟩⟩
  · exact absurd chk31 h0
  rw [up31] at hn hown
  simp only [List.cons.injEq, and_true] at hn
  subst hn
  obtain ⟨g, cap, rfl, _, hgl⟩ := hown.form (by simp)
  have k10 : w2.cell? ⟨g, 10, none⟩ = some (.int .i64 15) := by rw [hown.cellAt 10 (by simp)]; rfl
  have k20 : w2.cell? ⟨g, 20, none⟩ = some (.int .i64 26) := by rw [hown.cellAt 20 (by simp)]; rfl
  have k21 : w2.cell? ⟨g, 21, none⟩ = some (.int .i64 0) := by rw [hown.cellAt 21 (by simp)]; rfl
  have k22 : w2.cell? ⟨g, 22, none⟩ = some (.int .i64 1) := by rw [hown.cellAt 22 (by simp)]; rfl
  have k30 : w2.cell? ⟨g, 30, none⟩ = some (.int .i64 15) := by rw [hown.cellAt 30 (by simp)]; rfl
  have HC := Lib.hid (Chg.trans C1.out hc (fun _ _ h => h))
  clear hc hown hgl h0
  dsimp only [List.length_cons, List.length_nil]
  go_wp2
  go_ret
  exact ⟨rfl, HC.out⟩
end Go.Proofs.Ytpppgnphblbbcaa
