/- The walks of Can, of the reference's Any, and of Same for lists of numbers. -/
import Derived.Test.YtfnpfkjdcchipaaWho
namespace Go.Proofs.Ytfnpfkjdcchipaa
open Go.RowKit

def canB (m : MC) (s : SC) (e : Int) : Bool := decide (0 < (whoL m s e m.nU).length)
def anUp (m : MC) (s : SC) (j : Nat) : Bool := (List.range j).any fun (e : Nat) => canB m s e
def anB (m : MC) (s : SC) : Bool := anUp m s m.ev.length
theorem anUp_succ (m : MC) (s : SC) (j : Nat) : anUp m s (j + 1) = (anUp m s j || canB m s j) := by unfold anUp; rw [List.range_succ, any_snoc]
theorem anUp_true {m : MC} {s : SC} {j : Nat} (hj : j < m.ev.length) (h : canB m s j = true) : anB m s = true := by
  unfold anB anUp
  rw [List.any_eq_true]; exact ⟨j, List.mem_range.2 hj, h⟩
set_option maxRecDepth 100000 in
set_option maxHeartbeats 4000000 in
theorem can_any (w : World) (m : MC) (s : SC) (e : Int) (hG : Good w m s) (hnU : m.nU ≤ 1000) : Calls Try.prog 11 #[.agg (mA m), .agg (sA s), .int .i64 e] w fun r w' => r = .returned (.bool (canB m s e)) ∧ Chg (fun _ => False) w w' := by
  have hC0 := Lib.hid (((Chg.refl (fun _ => False) w).alloc (.cells (mA m) 32)).alloc (.cells (sA s) 35))
  have HW := Lib.hid (fun (w' : World) (h : Chg (fun _ => False) w w') => who_any w' m s e (hG.later h) hnU)
  unfold canB
  obtain ⟨l, hl⟩ : ∃ l, l = whoL m s e m.nU := ⟨_, rfl⟩
  rw [← hl] at HW ⊢
  clear hl hG
  unfold mA sA at HW hC0
  unfold mA sA
  go_enter Try.func11, Try.ntmps11
  go_wp2_with (go_at_call 10; refine (HW.out _ hC0.out).mono ?_; rintro r w' ⟨A, c, rfl, hlm, -, h⟩; have HC := Lib.hid (Chg.trans hC0.out h (fun _ _ h => h)); clear h; unfold maxLen at hlm)
  go_ret
  exact ⟨by simp, HC.out⟩
set_option maxRecDepth 100000 in
set_option maxHeartbeats 4000000 in
theorem refAny_any (w : World) (m : MC) (s : SC) (hG : Good w m s) (hnU : m.nU ≤ 1000) : Calls Try.prog 13 #[.agg (mA m), .agg (sA s)] w fun r w' => r = .returned (.bool (anB m s)) ∧ Chg (fun _ => False) w w' := by
  have hlen := hG.lens.2.2.2.2.2.1
  unfold maxLen at hlen
  have hb := Boxes.new w m s
  have hC0 := ((Chg.refl (fun _ => False) w).alloc (.cells (mA m) 32)).alloc (.cells (sA s) 35)
  have HW := Lib.hid (fun (w' : World) (h : Chg (fun _ => False) w w') (e : Int) => refWho_any w' m s e (hG.later h) hnU)
  unfold mA sA at HW
  unfold mA sA
  go_enter Try.func13, Try.ntmps13
  go_wp2_with fail
  obtain ⟨w1, hw1⟩ : ∃ w1, w1 = (w.alloc (.cells (mA m) 32)).alloc (.cells (sA s) 35) := ⟨_, rfl⟩
  rw [← hw1] at hb hC0
  unfold mA sA at hw1
  rw [← hw1]
  clear hw1
  obtain ⟨k, hk⟩ : ∃ k, k = w.heap.size + 1 := ⟨_, rfl⟩
  obtain ⟨g, hg⟩ : ∃ g, g = w.heap.size := ⟨_, rfl⟩
  rw [← hk, ← hg] at hb ⊢
  clear hk hg hG
  have HB := Lib.hid hb
  have HC0 := Lib.hid hC0
  clear hb hC0
  go_loopw [5] (fun x wr => ∃ j : Nat, j ≤ m.ev.length ∧ x = .int .i64 j ∧ Hid (anUp m s j = false) ∧ Hid (Chg (fun _ => False) w1 wr)) (fun x _ => m.ev.length - (intOf x).toNat)
  case atStart => exact ⟨0, Nat.zero_le _, rfl, Lib.hid rfl, Chg.refl _ _⟩
  case round =>
    obtain ⟨j, hj, rfl, hU, hC⟩ := hrel
    have hBr := HB.out.later hC.out
    obtain ⟨e0, e1, e2, e3, e4, e5, e6, e7, e8, e9⟩ := mcells hBr.m
    obtain ⟨f0, f1, f2, f3, f4⟩ := scells hBr.s
    replace hBr := Lib.hid hBr
    by_cases hlt : j < m.ev.length
    · have HWJ := Lib.hid (HW.out wr (Chg.trans HC0.out hC.out (fun _ _ h => h)) j)
      have hs := anUp_succ m s j
      rw [hU.out, Bool.false_or] at hs
      have hyes := Lib.hid (fun h => anUp_true (s := s) hlt h)
      unfold canB at hs hyes
      obtain ⟨l, hl⟩ : ∃ l, l = whoL m s j m.nU := ⟨_, rfl⟩
      rw [← hl] at hs hyes HWJ
      clear hl
      by_cases hl0 : 0 < l.length
      · have hd : decide ((0 : Int) < (l.length : Int)) = true := by rw [decide_eq_true_iff]; omega
        have hA := Lib.hid (hyes.out (by rw [decide_eq_true_iff]; exact hl0))
        clear hyes hs
        go_wp2_with (go_at_call 8; refine HWJ.out.mono ?_; rintro r w' ⟨A, c, rfl, hlm, -, h⟩; have HC := Lib.hid (Chg.trans hC.out h (fun _ _ h => h)); clear h; unfold maxLen at hlm)
        go_ret
        exact ⟨by rw [hA.out]; rfl, Chg.trans HC0.out HC.out (fun _ _ h => h)⟩
      · have hd : decide ((0 : Int) < (l.length : Int)) = false := by rw [decide_eq_false_iff_not]; omega
        have hA : Hid (anUp m s (j + 1) = false) := Lib.hid (hs.trans (by rw [decide_eq_false_iff_not]; exact hl0))
        clear hyes hs
        go_wp2_with (go_at_call 8; refine HWJ.out.mono ?_; rintro r w' ⟨A, c, rfl, hlm, -, h⟩; have HC := Lib.hid (Chg.trans hC.out h (fun _ _ h => h)); clear h; unfold maxLen at hlm)
        go_roundw
        case rel => exact ⟨j + 1, by omega, by go_num, hA, HC⟩
        case measure => (simp [intOf] <;> omega)
    · obtain rfl : j = m.ev.length := by omega
      have hno : Hid (anB m s = false) := hU
      clear hU
      go_wp2
      go_ret
      exact ⟨by rw [hno.out]; rfl, Chg.trans HC0.out hC.out (fun _ _ h => h)⟩
set_option maxRecDepth 100000 in
set_option maxHeartbeats 4000000 in
theorem sameInts (w : World) (A B : Option Addr) (c d : Nat) (l : List Int) (hl : l.length ≤ maxLen) (hA : Rd w w.heap.size A (intsV l)) (hB : Rd w w.heap.size B (intsV l)) :
    Calls Try.prog 9 #[.slice A l.length c, .slice B l.length d] w fun e w' => e = .returned (.bool true) ∧ Chg (fun _ => False) w w' := by
  have HA := Lib.hid hA
  have HB := Lib.hid hB
  clear hA hB
  unfold maxLen at hl
  have hlz : ((l.length : Int) == (l.length : Int)) = true := by simp
  have hlz2 : ((l.length : Int) != (l.length : Int)) = false := by simp
  go_enter Try.func9, Try.ntmps9
  go_wp2
  go_loopw [5] (fun i wr => ∃ j : Nat, j ≤ l.length ∧ i = .int .i64 j ∧ Hid (Chg (fun _ => False) w wr)) (fun i _ => l.length - (intOf i).toNat)
  case atStart => exact ⟨0, Nat.zero_le _, rfl, Chg.refl _ _⟩
  case round =>
    obtain ⟨j, hj, rfl, hC⟩ := hrel
    by_cases hlt : j < l.length
    · obtain ⟨b1, o1, hA1, hb1, hc1⟩ := (HA.out.chg hC.out (Nat.le_refl _) (fun _ h => h.elim)).plain (by simp [intsV]; omega)
      obtain ⟨b2, o2, hA2, hb2, hc2⟩ := (HB.out.chg hC.out (Nat.le_refl _) (fun _ h => h.elim)).plain (by simp [intsV]; omega)
      obtain ⟨x, hx⟩ : ∃ x, l[j]? = some x := ⟨_, List.getElem?_eq_getElem hlt⟩
      have k1 := hc1 j (.int .i64 x) (by simp [intsV, hx])
      have k2 := hc2 j (.int .i64 x) (by simp [intsV, hx])
      subst hA1
      subst hA2
      have bx : (x == x) = true := by simp
      have bx2 : (x != x) = false := by simp
      clear hc1 hc2 hx
      go_wp2_with fail
      go_quiet (fail)
      have HE := Lib.hid (hC.out.drewN nq)
      go_wp2
      go_roundw
      case rel => exact ⟨j + 1, by omega, by go_num, HE⟩
      case measure => (simp [intOf] <;> omega)
    · go_wp2
      go_ret
      exact ⟨rfl, hC.out⟩
end Go.Proofs.Ytfnpfkjdcchipaa
