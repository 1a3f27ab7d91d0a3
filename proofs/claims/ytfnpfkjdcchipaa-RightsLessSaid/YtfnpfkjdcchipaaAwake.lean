/- The walk of layer 17's awake. -/
import Derived.Test.YtfnpfkjdcchipaaEnab
namespace Go.Proofs.Ytfnpfkjdcchipaa
open Go.RowKit

def evZ : EvC := ⟨⟨#[]⟩, 0, 0, none, 0, 0, 0⟩
/-- The example's model, its rows in the blocks from h on. -/
def mW (h : Nat) : MC := { aA := none, nA := 0, cA := 0, aI := none, nI := 0, cI := 0, aU := some ⟨h, 0, none⟩, nU := 1, cU := 1, aR := some ⟨h + 1, 0, none⟩, ro := [⟨⟨#[]⟩, 1⟩], cR := 1, aS := some ⟨h + 1 + 1, 0, none⟩, nS := 1, cS := 1, aE := some ⟨h + 1 + 1 + 1, 0, none⟩, ev := [evZ, evZ], cE := 2, aG := none, gu := [], cG := 0, aM := none, mi := [], cM := 0, aD := some ⟨h + 1 + 1 + 1 + 1, 0, none⟩, so := [(0, 1)], cD := 1, aO := none, nO := 0, cO := 0 }
def sW (a b : Nat) : SC := { aV := none, nV := 0, cV := 0, op := 1, dn := 0, aD := some ⟨a, 0, none⟩, did := [1, 0], cD := 2, aC := some ⟨b, 0, none⟩, cnt := [0, 0], cC := 2 }
theorem en00 (h a b : Nat) : enB (mW h) (sW a b) 0 0 = true := by rfl
theorem fr10 (h a b : Nat) : freeB (mW h) (sW a b) 1 0 = true := by rfl
theorem en10 (h a b : Nat) : enB (mW h) (sW a b) 1 0 = false := by rfl
theorem rd_block {w : World} {g : Nat} {t : TypeId} {xs : List Value} (h : Blk w g t xs.toArray) : Rd w w.heap.size (some ⟨g, 0, none⟩) xs := fun _ =>
  ⟨_, rfl, h.lt, fun j u hu => by rw [add_row, Nat.zero_add, h.cell]; simpa using hu⟩
set_option maxRecDepth 100000 in
set_option maxHeartbeats 2000000 in
theorem awake_any (w : World) : Calls Try.prog 7 #[] w fun e w' => e = .returned (.bool true) ∧ Chg (fun _ => False) w w' := by
  have hmk : ∀ w, (Instr.makeSlice 26 (.int .i64 2) (.int .i64 2)).run Try.prog w = .ok (.slice (some ⟨w.heap.size, 0, none⟩) 2 2) (w.alloc (.cells #[.string ⟨#[]⟩, .int .i64 0, .int .i64 0, .slice none 0 0, .int .i64 0, .string ⟨#[]⟩, .int .i64 0, .int .i64 0, .slice none 0 0, .int .i64 0] 52)) := fun _ => by kernel_rfl
  go_enter Try.func7, Try.ntmps7
  go_wp2_with fail
  obtain ⟨w1, h1⟩ : ∃ x, x = w.alloc (.cells #[.string ⟨#[117]⟩] 9) := ⟨_, rfl⟩
  obtain ⟨w2, h2⟩ : ∃ x, x = w1.alloc (.cells #[.string ⟨#[]⟩, .int .i64 1] 54) := ⟨_, rfl⟩
  obtain ⟨w3, h3⟩ : ∃ x, x = w2.alloc (.cells #[.string ⟨#[]⟩, .int .i64 (-1)] 56) := ⟨_, rfl⟩
  obtain ⟨w4, h4⟩ : ∃ x, x = w3.alloc (.cells #[.string ⟨#[]⟩, .int .i64 0, .int .i64 0, .slice none 0 0, .int .i64 0, .string ⟨#[]⟩, .int .i64 0, .int .i64 0, .slice none 0 0, .int .i64 0] 52) := ⟨_, rfl⟩
  obtain ⟨w5, h5⟩ : ∃ x, x = w4.alloc (.cells #[.int .i64 0, .int .i64 1] 58) := ⟨_, rfl⟩
  obtain ⟨w6, h6⟩ : ∃ x, x = w5.alloc (.cells #[.slice none 0 0, .slice none 0 0, .slice (some ⟨w.heap.size, 0, none⟩) 1 1, .slice (some ⟨w.heap.size + 1, 0, none⟩) 1 1, .slice (some ⟨w.heap.size + 1 + 1, 0, none⟩) 1 1, .slice (some ⟨w.heap.size + 1 + 1 + 1, 0, none⟩) 2 2, .slice none 0 0, .slice none 0 0, .slice (some ⟨w.heap.size + 1 + 1 + 1 + 1, 0, none⟩) 1 1, .slice none 0 0] 32) := ⟨_, rfl⟩
  obtain ⟨w7, h7⟩ : ∃ x, x = w6.alloc (.cells #[.int .i64 1, .int .i64 0] 3) := ⟨_, rfl⟩
  obtain ⟨w8, h8⟩ : ∃ x, x = w7.alloc (.cells #[.int .i64 0, .int .i64 0] 3) := ⟨_, rfl⟩
  obtain ⟨w9, h9⟩ : ∃ x, x = w8.alloc (.cells #[.slice none 0 0, .int .i64 1, .int .i64 0, .slice (some ⟨w.heap.size + 1 + 1 + 1 + 1 + 1 + 1, 0, none⟩) 2 2, .slice (some ⟨w.heap.size + 1 + 1 + 1 + 1 + 1 + 1 + 1, 0, none⟩) 2 2] 35) := ⟨_, rfl⟩
  rw [← h1, ← h2, ← h3, ← h4, ← h5, ← h6, ← h7, ← h8, ← h9]
  have n1 : w1.heap.size = w.heap.size + 1 := by rw [h1, World.size_alloc]
  have n2 : w2.heap.size = w.heap.size + 1 + 1 := by rw [h2, World.size_alloc, n1]
  have n3 : w3.heap.size = w.heap.size + 1 + 1 + 1 := by rw [h3, World.size_alloc, n2]
  have n4 : w4.heap.size = w.heap.size + 1 + 1 + 1 + 1 := by rw [h4, World.size_alloc, n3]
  have n5 : w5.heap.size = w.heap.size + 1 + 1 + 1 + 1 + 1 := by rw [h5, World.size_alloc, n4]
  have n6 : w6.heap.size = w.heap.size + 1 + 1 + 1 + 1 + 1 + 1 := by rw [h6, World.size_alloc, n5]
  have n7 : w7.heap.size = w.heap.size + 1 + 1 + 1 + 1 + 1 + 1 + 1 := by rw [h7, World.size_alloc, n6]
  have n8 : w8.heap.size = w.heap.size + 1 + 1 + 1 + 1 + 1 + 1 + 1 + 1 := by rw [h8, World.size_alloc, n7]
  have n9 : w9.heap.size = w.heap.size + 1 + 1 + 1 + 1 + 1 + 1 + 1 + 1 + 1 := by rw [h9, World.size_alloc, n8]
  have b1 : Blk w9 (w.heap.size) 9 #[.string ⟨#[117]⟩] := by
    have x1 : Blk w1 w.heap.size 9 _ := h1 ▸ Blk.new w 9 _
    have x2 : Blk w2 w.heap.size 9 _ := h2 ▸ x1.alloc _
    have x3 : Blk w3 w.heap.size 9 _ := h3 ▸ x2.alloc _
    have x4 : Blk w4 w.heap.size 9 _ := h4 ▸ x3.alloc _
    have x5 : Blk w5 w.heap.size 9 _ := h5 ▸ x4.alloc _
    have x6 : Blk w6 w.heap.size 9 _ := h6 ▸ x5.alloc _
    have x7 : Blk w7 w.heap.size 9 _ := h7 ▸ x6.alloc _
    have x8 : Blk w8 w.heap.size 9 _ := h8 ▸ x7.alloc _
    have x9 : Blk w9 w.heap.size 9 _ := h9 ▸ x8.alloc _
    exact x9
  have b2 : Blk w9 (w.heap.size + 1) 54 #[.string ⟨#[]⟩, .int .i64 1] := by
    rw [← n1]
    have x2 : Blk w2 w1.heap.size 54 _ := h2 ▸ Blk.new w1 54 _
    have x3 : Blk w3 w1.heap.size 54 _ := h3 ▸ x2.alloc _
    have x4 : Blk w4 w1.heap.size 54 _ := h4 ▸ x3.alloc _
    have x5 : Blk w5 w1.heap.size 54 _ := h5 ▸ x4.alloc _
    have x6 : Blk w6 w1.heap.size 54 _ := h6 ▸ x5.alloc _
    have x7 : Blk w7 w1.heap.size 54 _ := h7 ▸ x6.alloc _
    have x8 : Blk w8 w1.heap.size 54 _ := h8 ▸ x7.alloc _
    have x9 : Blk w9 w1.heap.size 54 _ := h9 ▸ x8.alloc _
    exact x9
  have b3 : Blk w9 (w.heap.size + 1 + 1) 56 #[.string ⟨#[]⟩, .int .i64 (-1)] := by
    rw [← n2]
    have x3 : Blk w3 w2.heap.size 56 _ := h3 ▸ Blk.new w2 56 _
    have x4 : Blk w4 w2.heap.size 56 _ := h4 ▸ x3.alloc _
    have x5 : Blk w5 w2.heap.size 56 _ := h5 ▸ x4.alloc _
    have x6 : Blk w6 w2.heap.size 56 _ := h6 ▸ x5.alloc _
    have x7 : Blk w7 w2.heap.size 56 _ := h7 ▸ x6.alloc _
    have x8 : Blk w8 w2.heap.size 56 _ := h8 ▸ x7.alloc _
    have x9 : Blk w9 w2.heap.size 56 _ := h9 ▸ x8.alloc _
    exact x9
  have b4 : Blk w9 (w.heap.size + 1 + 1 + 1) 52 #[.string ⟨#[]⟩, .int .i64 0, .int .i64 0, .slice none 0 0, .int .i64 0, .string ⟨#[]⟩, .int .i64 0, .int .i64 0, .slice none 0 0, .int .i64 0] := by
    rw [← n3]
    have x4 : Blk w4 w3.heap.size 52 _ := h4 ▸ Blk.new w3 52 _
    have x5 : Blk w5 w3.heap.size 52 _ := h5 ▸ x4.alloc _
    have x6 : Blk w6 w3.heap.size 52 _ := h6 ▸ x5.alloc _
    have x7 : Blk w7 w3.heap.size 52 _ := h7 ▸ x6.alloc _
    have x8 : Blk w8 w3.heap.size 52 _ := h8 ▸ x7.alloc _
    have x9 : Blk w9 w3.heap.size 52 _ := h9 ▸ x8.alloc _
    exact x9
  have b5 : Blk w9 (w.heap.size + 1 + 1 + 1 + 1) 58 #[.int .i64 0, .int .i64 1] := by
    rw [← n4]
    have x5 : Blk w5 w4.heap.size 58 _ := h5 ▸ Blk.new w4 58 _
    have x6 : Blk w6 w4.heap.size 58 _ := h6 ▸ x5.alloc _
    have x7 : Blk w7 w4.heap.size 58 _ := h7 ▸ x6.alloc _
    have x8 : Blk w8 w4.heap.size 58 _ := h8 ▸ x7.alloc _
    have x9 : Blk w9 w4.heap.size 58 _ := h9 ▸ x8.alloc _
    exact x9
  have b6 : Blk w9 (w.heap.size + 1 + 1 + 1 + 1 + 1) 32 #[.slice none 0 0, .slice none 0 0, .slice (some ⟨w.heap.size, 0, none⟩) 1 1, .slice (some ⟨w.heap.size + 1, 0, none⟩) 1 1, .slice (some ⟨w.heap.size + 1 + 1, 0, none⟩) 1 1, .slice (some ⟨w.heap.size + 1 + 1 + 1, 0, none⟩) 2 2, .slice none 0 0, .slice none 0 0, .slice (some ⟨w.heap.size + 1 + 1 + 1 + 1, 0, none⟩) 1 1, .slice none 0 0] := by
    rw [← n5]
    have x6 : Blk w6 w5.heap.size 32 _ := h6 ▸ Blk.new w5 32 _
    have x7 : Blk w7 w5.heap.size 32 _ := h7 ▸ x6.alloc _
    have x8 : Blk w8 w5.heap.size 32 _ := h8 ▸ x7.alloc _
    have x9 : Blk w9 w5.heap.size 32 _ := h9 ▸ x8.alloc _
    exact x9
  have b7 : Blk w9 (w.heap.size + 1 + 1 + 1 + 1 + 1 + 1) 3 #[.int .i64 1, .int .i64 0] := by
    rw [← n6]
    have x7 : Blk w7 w6.heap.size 3 _ := h7 ▸ Blk.new w6 3 _
    have x8 : Blk w8 w6.heap.size 3 _ := h8 ▸ x7.alloc _
    have x9 : Blk w9 w6.heap.size 3 _ := h9 ▸ x8.alloc _
    exact x9
  have b8 : Blk w9 (w.heap.size + 1 + 1 + 1 + 1 + 1 + 1 + 1) 3 #[.int .i64 0, .int .i64 0] := by
    rw [← n7]
    have x8 : Blk w8 w7.heap.size 3 _ := h8 ▸ Blk.new w7 3 _
    have x9 : Blk w9 w7.heap.size 3 _ := h9 ▸ x8.alloc _
    exact x9
  have b9 : Blk w9 (w.heap.size + 1 + 1 + 1 + 1 + 1 + 1 + 1 + 1) 35 #[.slice none 0 0, .int .i64 1, .int .i64 0, .slice (some ⟨w.heap.size + 1 + 1 + 1 + 1 + 1 + 1, 0, none⟩) 2 2, .slice (some ⟨w.heap.size + 1 + 1 + 1 + 1 + 1 + 1 + 1, 0, none⟩) 2 2] := by
    rw [← n8]
    have x9 : Blk w9 w8.heap.size 35 _ := h9 ▸ Blk.new w8 35 _
    exact x9
  have hC : Chg (fun _ => False) w w9 := by
    rw [h9, h8, h7, h6, h5, h4, h3, h2, h1]
    exact (((((((((Chg.refl _ w).alloc _).alloc _).alloc _).alloc _).alloc _).alloc _).alloc _).alloc _).alloc _
  clear h1 h2 h3 h4 h5 h6 h7 h8 h9 n1 n2 n3 n4 n5 n6 n7 n8 n9 hmk
  obtain ⟨h, hh⟩ : ∃ h, h = w.heap.size := ⟨_, rfl⟩
  rw [← hh] at b1 b2 b3 b4 b5 b6 b7 b8 b9 ⊢
  clear hh
  have hG : Good w9 (mW h) (sW (h + 1 + 1 + 1 + 1 + 1 + 1) (h + 1 + 1 + 1 + 1 + 1 + 1 + 1)) :=
    ⟨rd_block b2, rd_block b4, fun hn => absurd hn (Nat.lt_irrefl 0), fun hn => absurd hn (Nat.lt_irrefl 0), rd_block b5, rd_block b7, rd_block b8, by unfold maxLen; simp only [mW]; decide, by unfold maxLen; simp only [sW]; decide, by unfold inR; simp only [sW]; decide, by unfold inR; simp only [sW]; decide, by intro x hx; simp only [mW, List.mem_singleton] at hx; subst hx; unfold inR; decide, by intro x hx; simp only [sW, List.mem_cons, List.not_mem_nil, or_false] at hx; unfold inR; rcases hx with rfl | rfl <;> decide⟩
  have E00 := Lib.hid (fun (w' : World) (hc : Chg (fun _ => False) w9 w') => en_any w' _ _ 0 0 (hG.later hc))
  have F10 := Lib.hid (fun (w' : World) (hc : Chg (fun _ => False) w9 w') => free_any w' _ _ 1 0 (hG.later hc))
  have E10 := Lib.hid (fun (w' : World) (hc : Chg (fun _ => False) w9 w') => en_any w' _ _ 1 0 (hG.later hc))
  rw [en00] at E00
  rw [fr10] at F10
  rw [en10] at E10
  have e0 : w9.cell? ⟨h + 1 + 1 + 1 + 1 + 1, 0, none⟩ = some (.slice none 0 0) := by rw [b6.cell]; rfl
  have e1 : w9.cell? ⟨h + 1 + 1 + 1 + 1 + 1, 1, none⟩ = some (.slice none 0 0) := by rw [b6.cell]; rfl
  have e2 : w9.cell? ⟨h + 1 + 1 + 1 + 1 + 1, 2, none⟩ = some (.slice (some ⟨h, 0, none⟩) 1 1) := by rw [b6.cell]; rfl
  have e3 : w9.cell? ⟨h + 1 + 1 + 1 + 1 + 1, 3, none⟩ = some (.slice (some ⟨h + 1, 0, none⟩) 1 1) := by rw [b6.cell]; rfl
  have e4 : w9.cell? ⟨h + 1 + 1 + 1 + 1 + 1, 4, none⟩ = some (.slice (some ⟨h + 1 + 1, 0, none⟩) 1 1) := by rw [b6.cell]; rfl
  have e5 : w9.cell? ⟨h + 1 + 1 + 1 + 1 + 1, 5, none⟩ = some (.slice (some ⟨h + 1 + 1 + 1, 0, none⟩) 2 2) := by rw [b6.cell]; rfl
  have e6 : w9.cell? ⟨h + 1 + 1 + 1 + 1 + 1, 6, none⟩ = some (.slice none 0 0) := by rw [b6.cell]; rfl
  have e7 : w9.cell? ⟨h + 1 + 1 + 1 + 1 + 1, 7, none⟩ = some (.slice none 0 0) := by rw [b6.cell]; rfl
  have e8 : w9.cell? ⟨h + 1 + 1 + 1 + 1 + 1, 8, none⟩ = some (.slice (some ⟨h + 1 + 1 + 1 + 1, 0, none⟩) 1 1) := by rw [b6.cell]; rfl
  have e9 : w9.cell? ⟨h + 1 + 1 + 1 + 1 + 1, 9, none⟩ = some (.slice none 0 0) := by rw [b6.cell]; rfl
  have f0 : w9.cell? ⟨h + 1 + 1 + 1 + 1 + 1 + 1 + 1 + 1, 0, none⟩ = some (.slice none 0 0) := by rw [b9.cell]; rfl
  have f1 : w9.cell? ⟨h + 1 + 1 + 1 + 1 + 1 + 1 + 1 + 1, 1, none⟩ = some (.int .i64 1) := by rw [b9.cell]; rfl
  have f2 : w9.cell? ⟨h + 1 + 1 + 1 + 1 + 1 + 1 + 1 + 1, 2, none⟩ = some (.int .i64 0) := by rw [b9.cell]; rfl
  have f3 : w9.cell? ⟨h + 1 + 1 + 1 + 1 + 1 + 1 + 1 + 1, 3, none⟩ = some (.slice (some ⟨h + 1 + 1 + 1 + 1 + 1 + 1, 0, none⟩) 2 2) := by rw [b9.cell]; rfl
  have f4 : w9.cell? ⟨h + 1 + 1 + 1 + 1 + 1 + 1 + 1 + 1, 4, none⟩ = some (.slice (some ⟨h + 1 + 1 + 1 + 1 + 1 + 1 + 1, 0, none⟩) 2 2) := by rw [b9.cell]; rfl
  have HC := Lib.hid hC
  have HQ := Lib.hid (Chg.refl (fun _ => False) w9)
  clear hC hG b1 b2 b3 b4 b5 b6 b7 b8 b9
  refine Calls.mono (E00.out _ HQ.out) ?_
  rintro r w' ⟨rfl, q⟩
  have e0 := keep_cell q (fun _ h => h) e0
  have e1 := keep_cell q (fun _ h => h) e1
  have e2 := keep_cell q (fun _ h => h) e2
  have e3 := keep_cell q (fun _ h => h) e3
  have e4 := keep_cell q (fun _ h => h) e4
  have e5 := keep_cell q (fun _ h => h) e5
  have e6 := keep_cell q (fun _ h => h) e6
  have e7 := keep_cell q (fun _ h => h) e7
  have e8 := keep_cell q (fun _ h => h) e8
  have e9 := keep_cell q (fun _ h => h) e9
  have f0 := keep_cell q (fun _ h => h) f0
  have f1 := keep_cell q (fun _ h => h) f1
  have f2 := keep_cell q (fun _ h => h) f2
  have f3 := keep_cell q (fun _ h => h) f3
  have f4 := keep_cell q (fun _ h => h) f4
  have HQ := Lib.hid (Chg.trans HQ.out q (fun _ _ h => h))
  clear q
  go_wp2_with fail
  refine Calls.mono (F10.out _ HQ.out) ?_
  rintro r w' ⟨rfl, q⟩
  have e0 := keep_cell q (fun _ h => h) e0
  have e1 := keep_cell q (fun _ h => h) e1
  have e2 := keep_cell q (fun _ h => h) e2
  have e3 := keep_cell q (fun _ h => h) e3
  have e4 := keep_cell q (fun _ h => h) e4
  have e5 := keep_cell q (fun _ h => h) e5
  have e6 := keep_cell q (fun _ h => h) e6
  have e7 := keep_cell q (fun _ h => h) e7
  have e8 := keep_cell q (fun _ h => h) e8
  have e9 := keep_cell q (fun _ h => h) e9
  have f0 := keep_cell q (fun _ h => h) f0
  have f1 := keep_cell q (fun _ h => h) f1
  have f2 := keep_cell q (fun _ h => h) f2
  have f3 := keep_cell q (fun _ h => h) f3
  have f4 := keep_cell q (fun _ h => h) f4
  have HQ := Lib.hid (Chg.trans HQ.out q (fun _ _ h => h))
  clear q
  go_wp2_with fail
  refine Calls.mono (E10.out _ HQ.out) ?_
  rintro r w' ⟨rfl, q⟩
  have HQ := Lib.hid (Chg.trans HQ.out q (fun _ _ h => h))
  clear q
  go_wp2
  go_ret
  exact ⟨rfl, Chg.trans HC.out HQ.out (fun _ _ h => h)⟩
end Go.Proofs.Ytfnpfkjdcchipaa
