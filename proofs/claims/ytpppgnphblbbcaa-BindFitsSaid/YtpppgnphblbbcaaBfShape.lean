/- The walk of shape: instructions as items. -/
import Derived.Test.YtpppgnphblbbcaaNoItems
namespace Go.Proofs.Ytpppgnphblbbcaa
open Go.RowKit

set_option maxRecDepth 100000 in
set_option maxHeartbeats 4000000 in
theorem shape_any (w : World) (A : Option Addr) (c : Nat) (f : List Nm.Inst) (hl : f.length ≤ 1000) (hr : Rd w w.heap.size A (f.flatMap instV7)) :
    Calls Try.prog 70 #[.slice A f.length c] w fun e w' => ∃ A' c', e = .returned (.slice A' f.length c') ∧ Rd w' w'.heap.size A' (cellsI (f.map toItem)) ∧ Chg (fun _ => False) w w' := by
  have HR := Lib.hid hr
  clear hr
  obtain ⟨i70, hi70, hz0, hz1, hz2⟩ := info_parts item70
  go_enter Try.func70, Try.ntmps70
  go_wp2
  go_loopw [8, 3] (fun i v wr => ∃ j : Nat, j ≤ f.length ∧ i = .int .i64 j ∧ Hid (Items w wr f j v)) (fun i _ _ => f.length - (intOf i).toNat)
  case atStart => exact ⟨0, Nat.zero_le _, rfl, Items.start w f⟩
  case round =>
    obtain ⟨j, hj, rfl, hM⟩ := hrel
    by_cases hlt : j < f.length
    · obtain ⟨x, hx⟩ : ∃ x, f[j]? = some x := ⟨_, List.getElem?_eq_getElem hlt⟩
      obtain ⟨xb, o, hA, hxb, c0, c1, c2, c3, c4, c5, c6⟩ := ins_at (HR.out.chg hM.out.chg (Nat.le_refl _) (fun _ h => h.elim)) hx
      subst hA
      have HX := Lib.hid hx
      have hsz := hM.out.chg.size
      have y0 : (wr.alloc (.cells #[.int .i64 x.op, .int .i64 x.la, .int .i64 x.lnum, .int .i64 x.ra, .int .i64 x.rnum, .int .i64 x.n, .int .i64 x.user] 77)).cell? ⟨wr.heap.size, 0, none⟩ = some (.int .i64 x.op) := by rw [(Blk.new wr 77 _).cell]; rfl
      clear hx
      go_wp2_with (at_builtin; refine wpList_append_lies _ rfl (.tmp 12) (.tmp 16) 33 rfl w.heap.size 70 i70 _ 9 104 Try.underlying33 hi70 hz0 hz1 hz2 rfl (by omega) u3 j (cellsI (itemsUp f j)) rfl (by exact World.ownsRow.alloc (World.ownsRow.alloc hM.out.own _) _) ⟨wr.heap.size + 1, 0, none⟩ 1 1 (itemC (toItem x)) rfl rfl (by exact all_new (blk_new2 wr _ 70 (itemA (toItem x)))) (by intro u hu; rw [itemC_to] at hu; simp at hu; rcases hu with rfl | rfl | rfl | rfl | rfl | rfl | rfl | rfl | rfl <;> rfl) (by omega) (by unfold maxLen; omega) (by omega) (by simp; omega) (wr.heap.size + 1 + 1) (by simp) ?_; intro g cap w3 hown3 hg3 hat3 hlt3; have HI3 := Lib.hid (hM.out.more HX.out (((Chg.refl _ wr).alloc _).alloc _) hown3 hg3); clear hown3 hg3 hat3 hlt3)
      clear c0 c1 c2 c3 c4 c5 c6 y0 hsz
      go_roundw
      case rel => exact ⟨j + 1, by omega, by go_num, HI3⟩
      case measure => (simp [intOf] <;> omega)
    · obtain rfl : j = f.length := by omega
      obtain ⟨A5, cap5, h5, _, _⟩ := own_slice hM.out.own
      have hown := hM.out.own
      rw [h5, itemsUp_all] at hown
      have HO := Lib.hid (own_rdN hown)
      have HC := Lib.hid hM.out.chg
      rw [h5]
      clear hown hM h5
      go_wp2
      go_ret
      exact ⟨A5, cap5, rfl, HO.out, HC.out⟩
end Go.Proofs.Ytpppgnphblbbcaa
