/- The walk of layer 9's awake. -/
import Derived.Test.YtpppgnphblbbcaaNmBuild
namespace Go.Proofs.Ytpppgnphblbbcaa
open Go.RowKit

def stm0 (k : Int) (n : ByteArray) : StmC := ⟨⟨k, n, 0, 0⟩, 0, none, 0, 0, ⟨#[]⟩, ⟨#[]⟩, ⟨#[]⟩, 0, none, 0, 0, false⟩
def three : List StmC := [stm0 2 ⟨#[117]⟩, stm0 4 ⟨#[115]⟩, stm0 2 ⟨#[118]⟩]
theorem three_check : Nm.check (stms three) = (0, 0, 0) := by decide +kernel
theorem three_find : Nm.findI (stms three) ⟨#[118]⟩ = ((2 : Nat) : Int) := by decide +kernel
theorem three_ahead : Nm.ahead ((stms three).take 2) 2 = 1 := by decide +kernel

/-- A slice of statements that the call itself has laid in one block. -/
theorem rd_block {w : World} {g : Nat} {t : TypeId} {xs : List Value} (h : Blk w g t xs.toArray) : Rd w w.heap.size (some ⟨g, 0, none⟩) xs := fun _ =>
  ⟨_, rfl, h.lt, fun j u hu => by rw [add_row, Nat.zero_add, h.cell]; simpa using hu⟩

set_option maxRecDepth 100000 in
set_option maxHeartbeats 1000000 in
theorem awake_any (w : World) : Calls Try.prog 16 #[] w fun e w' => e = .returned (.bool true) ∧ Chg (fun _ => False) w w' := by
  go_enter Try.func16, Try.ntmps16
  go_wp2_with fail
  have hR := rd_block (Blk.new w 35 (cellsOf three).toArray)
  have hC := (Chg.refl (fun _ => False) w).alloc (.cells (cellsOf three).toArray 35)
  have hsz : w.heap.size < (w.alloc (.cells (cellsOf three).toArray 35)).heap.size := by simp
  obtain ⟨w1, hw1⟩ : ∃ w1, w1 = w.alloc (.cells (cellsOf three).toArray 35) := ⟨_, rfl⟩
  rw [← hw1] at hR hC hsz
  have hw1' := Lib.hid hw1
  have HR := Lib.hid hR
  have HC := Lib.hid hC
  clear hR hC hw1
  refine Calls.mono (R := BuildDone w1 (stms three)) ?_ ?_
  · have := build_any w1 (some ⟨w.heap.size, 0, none⟩) 3 3 three rfl (by decide) HR.out (by decide)
    rw [hw1'.out] at this ⊢
    exact this
  rintro e w2 ⟨v, rfl, hB, hC2⟩
  rw [three_check]
  have HC2 := Lib.hid (Chg.trans HC.out hC2 (fun _ _ h => h))
  obtain ⟨b, mb, nv, rfl, hT, _⟩ : ∃ b mb nv, v = .pointer (some ⟨b, 0, none⟩) ∧ TAt w2 b mb nv (stms three) ∧ ∀ k, TFoot b mb nv k → w1.heap.size ≤ k := by
    rcases hB with ⟨_, h⟩ | ⟨_, h⟩
    · exact absurd (by rw [three_check]) h
    · exact h
  have HT := Lib.hid (hT.quiet (((Chg.refl (fun _ => False) w2).alloc (.cells #[.int .i64 0, .int .i64 0, .int .i64 0] 29))))
  have HX : Hid ((stms three)[2]? = some ⟨2, ⟨#[118]⟩, 0, 0⟩) := rfl
  clear hB hC2 hT
  simp only [faultV]
  go_wp2_with fail
  refine (find_yes _ b mb nv (stms three) ⟨#[118]⟩ (by decide) HT.out three_find HX.out).mono ?_
  rintro e w3 ⟨rfl, hC3⟩
  have hB3 := (Blk.new w2 29 #[.int .i64 0, .int .i64 0, .int .i64 0]).chg hC3 (fun h => h)
  have d0 : w3.cell? ⟨w2.heap.size, 0, none⟩ = some (.int .i64 0) := by rw [hB3.cell]; rfl
  have d1 : w3.cell? ⟨w2.heap.size, 1, none⟩ = some (.int .i64 0) := by rw [hB3.cell]; rfl
  have d2 : w3.cell? ⟨w2.heap.size, 2, none⟩ = some (.int .i64 0) := by rw [hB3.cell]; rfl
  have HC3 := Lib.hid (Chg.trans (HC2.out.alloc (.cells #[.int .i64 0, .int .i64 0, .int .i64 0] 29)) hC3 (fun _ _ h => h))
  dsimp only
  rw [three_ahead]
  clear hC3 hB3
  go_wp2
  go_ret
  exact ⟨rfl, HC3.out⟩
end Go.Proofs.Ytpppgnphblbbcaa
