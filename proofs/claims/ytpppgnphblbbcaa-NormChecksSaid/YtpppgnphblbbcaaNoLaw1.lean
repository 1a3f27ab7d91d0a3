/- The walk of the law NormChecks. -/
import Derived.Test.YtpppgnphblbbcaaNoCheck
import Derived.Test.YtpppgnphblbbcaaNoAwake
import Derived.StillTailTactics
namespace Go.Proofs.Ytpppgnphblbbcaa
open Go.RowKit

/-- The steps copied so far. -/
structure Own (w wr : World) (L : List No.Stp) (j : Nat) (v : Value) : Prop where
  own : wr.ownsRow w.heap.size 80 10 v j ((L.take j).flatMap stpC)
  chg : Chg (fun _ => False) w wr
theorem Own.more {w wr wa w' : World} {L : List No.Stp} {j g cap : Nat} {v : Value} {s : No.Stp} (h : Own w wr L j v) (hx : L[j]? = some s) (ha : Chg (fun _ => False) wr wa)
    (ho : w'.ownsRow w.heap.size 80 10 (.slice (some ⟨g, 0, none⟩) (j + 1) cap) (j + 1) ((L.take j).flatMap stpC ++ stpC s)) (hg : wa.grownBy w' v.ownBlock) : Own w w' L (j + 1) (.slice (some ⟨g, 0, none⟩) (j + 1) cap) := by
  refine ⟨?_, ?_⟩
  · obtain ⟨hjl, rfl⟩ := List.getElem?_eq_some_iff.1 hx
    rw [List.take_succ_eq_append_getElem hjl, List.flatMap_append]
    simpa using ho
  · have c1 : Chg (fun k => v.ownBlock = some k) wr w' := Chg.grown (S := fun k => v.ownBlock = some k) (ha.mono (fun _ _ h => h.elim)) hg (fun k hk => .inl hk)
    exact Chg.trans h.chg c1 (fun i hi e => by have := (h.own.lt i e).1; omega)
set_option maxRecDepth 100000 in
set_option maxHeartbeats 8000000 in
theorem law_normChecks (w : World) (A : Option Addr) (c : Nat) (L : List No.Stp) (hl : L.length ≤ maxLen) (hby : L.length * 80 ≤ 140737488355328) (hr : Rd w w.heap.size A (L.flatMap stpC)) :
    Calls Try.prog 13 #[.slice A L.length c] w fun e w' => e = .returned (.bool true) ∧ Chg (fun _ => False) w w' := by
  have HR := Lib.hid hr
  have HL := Lib.hid hl
  unfold maxLen at hl
  obtain ⟨i80, hi80, hz0, hz1, hz2⟩ := info_parts stp_info
  clear hr
  go_enter Try.func13, Try.ntmps13
  go_wp2
  go_loopw [4, 3] (fun i v wr => ∃ j : Nat, j ≤ L.length ∧ i = .int .i64 j ∧ Hid (Own w wr L j v)) (fun i _ _ => L.length - (intOf i).toNat)
  case atStart => exact ⟨0, Nat.zero_le _, rfl, ⟨World.ownsRow_nil _ _ _ _, Chg.refl _ _⟩⟩
  case round =>
    obtain ⟨j, hj, rfl, hM⟩ := hrel
    by_cases hlt : j < L.length
    · obtain ⟨s, hs⟩ : ∃ s, L[j]? = some s := ⟨_, List.getElem?_eq_getElem hlt⟩
      obtain ⟨xb, o, hA, hxb, c0, c1, c2, c3, c4, c5, c6, c7, c8, c9⟩ := stp_row (HR.out.chg hM.out.chg (Nat.le_refl _) (fun _ h => h.elim)) hs
      subst hA
      have HX := Lib.hid hs
      have hsz := hM.out.chg.size
      clear hs
      go_upto_region 5 with fail
      go_region_law (refine step_append_lies _ rfl (.tmp 11) (.tmp 33) 73 rfl w.heap.size 80 i80 _ 10 80 Try.underlying73 hi80 hz0 hz1 hz2 rfl (by omega) u3 j ((L.take j).flatMap stpC) rfl (by exact World.ownsRow.alloc (w := wr.drew) hM.out.own _) ⟨wr.heap.size, 0, none⟩ 1 1 (stpC s) rfl rfl (by exact all_new (Blk.new wr.drew 80 (stpA s))) (by intro u hu; simp [stpC] at hu; rcases hu with rfl | rfl | rfl | rfl | rfl | rfl | rfl | rfl | rfl | rfl <;> rfl) (by omega) (by unfold maxLen; omega) (by omega) (by simp; omega) (wr.heap.size + 1) (by simp) ?_; intro g cap w3 hown3 hg3 hat3 hlt3; have HI3 := Lib.hid (hM.out.more HX.out (((Chg.refl _ wr).drew).alloc _) hown3 hg3); clear hown3 hg3 hat3 hlt3)
      all_goals
        clear c0 c1 c2 c3 c4 c5 c6 c7 c8 c9 hsz
        go_wp2_with fail
        go_roundw
        case rel => exact ⟨j + 1, by omega, by go_num, HI3⟩
        case measure => (simp [intOf] <;> omega)
    · obtain rfl : j = L.length := by omega
      obtain ⟨A5, cap5, h5, _, _⟩ := own_slice hM.out.own
      have hown := hM.out.own
      rw [h5, List.take_length] at hown
      have K1 := Lib.hid (nCheck_any wr A5 cap5 L HL.out (own_rdN hown))
      have C1 := Lib.hid hM.out.chg
      have K2 := Lib.hid (fun (w' : World) (h : Chg (fun _ => False) w w') => rnCheck_any w' A c L HL.out (HR.out.later h (fun _ h => h.elim)))
      rw [h5]
      clear hown hM h5 hi80 hz0 hz1 hz2 hlt hj
      obtain ⟨v, hv⟩ : ∃ v, v = stAll L := ⟨_, rfl⟩
      rw [← hv] at K1 K2
      have b1 : (v == v) = true := by simp
      clear hv
      go_wp2_with fail
      refine Calls.mono K1.out ?_
      rintro e w2 ⟨rfl, h⟩
      have C2 := Lib.hid (Chg.trans C1.out h (fun _ _ h => h))
      clear h
      go_wp2_with fail
      refine Calls.mono (K2.out _ C2.out) ?_
      rintro e w3 ⟨rfl, h⟩
      have C3 := Lib.hid (Chg.trans C2.out h (fun _ _ h => h))
      clear h
      go_wp2_with fail
      refine Calls.mono (awake31_any _) ?_
      rintro e w4 ⟨rfl, h⟩
      have C4 := Lib.hid (Chg.trans C3.out h (fun _ _ h => h))
      clear h
      go_wp2
      go_ret
      exact ⟨rfl, C4.out⟩
end Go.Proofs.Ytpppgnphblbbcaa
