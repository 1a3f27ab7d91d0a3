/- The walk of the reference's Stuck. -/
import Derived.Test.YtfnpfkjdcchipaaAny
namespace Go.Proofs.Ytfnpfkjdcchipaa
open Go.RowKit

def opUp (_m : MC) (s : SC) (j : Nat) : Bool := (List.range j).any fun (i : Nat) => hasB s.op i
def frRow (m : MC) (s : SC) (e : Int) (n : Nat) : Bool := (List.range n).any fun (u : Nat) => freeB m s e u
def frUp (m : MC) (s : SC) (j : Nat) : Bool := (List.range j).any fun (e : Nat) => frRow m s e m.nU
def stuckB (m : MC) (s : SC) : Bool := opUp m s m.nS && frUp m s m.ev.length && !com m s && !anB m s
theorem opUp_succ (m : MC) (s : SC) (j : Nat) : opUp m s (j + 1) = (opUp m s j || hasB s.op j) := by unfold opUp; rw [List.range_succ, any_snoc]
theorem frRow_succ (m : MC) (s : SC) (e : Int) (j : Nat) : frRow m s e (j + 1) = (frRow m s e j || freeB m s e j) := by unfold frRow; rw [List.range_succ, any_snoc]
theorem frUp_succ (m : MC) (s : SC) (j : Nat) : frUp m s (j + 1) = (frUp m s j || frRow m s j m.nU) := by unfold frUp; rw [List.range_succ, any_snoc]
set_option maxRecDepth 100000 in
set_option maxHeartbeats 4000000 in
theorem refStuck_any (w : World) (m : MC) (s : SC) (hG : Good w m s) (hnU : m.nU ≤ 1000) : Calls Try.prog 17 #[.agg (mA m), .agg (sA s)] w fun r w' => r = .returned (.bool (stuckB m s)) ∧ Chg (fun _ => False) w w' := by
  have hlens := hG.lens
  unfold maxLen at hlens
  obtain ⟨-, -, -, -, hnS, hnE, -⟩ := hlens
  have hb := Boxes.new w m s
  have hC0 := ((Chg.refl (fun _ => False) w).alloc (.cells (mA m) 32)).alloc (.cells (sA s) 35)
  have HF := Lib.hid (fun (w' : World) (h : Chg (fun _ => False) w w') (e u : Int) => refFree_any w' m s e u (hG.later h))
  have HCM := Lib.hid (fun (w' : World) (h : Chg (fun _ => False) w w') => refCom_any w' m s (hG.later h))
  have HAN := Lib.hid (fun (w' : World) (h : Chg (fun _ => False) w w') => refAny_any w' m s (hG.later h) hnU)
  have hopR := Lib.hid hG.opR
  obtain ⟨cm, hcm⟩ : ∃ cm, cm = com m s := ⟨_, rfl⟩
  obtain ⟨an, han⟩ : ∃ an, an = anB m s := ⟨_, rfl⟩
  have hU : stuckB m s = (opUp m s m.nS && frUp m s m.ev.length && !cm && !an) := by unfold stuckB; rw [hcm, han]
  replace hU := Lib.hid hU
  rw [← hcm] at HCM
  rw [← han] at HAN
  clear hcm han
  unfold mA sA at HF HCM HAN
  unfold mA sA
  go_enter Try.func17, Try.ntmps17
  go_wp2_with fail
  obtain ⟨w1, hw1⟩ : ∃ w1, w1 = (w.alloc (.cells (mA m) 32)).alloc (.cells (sA s) 35) := ⟨_, rfl⟩
  rw [← hw1] at hb hC0
  unfold mA sA at hw1
  rw [← hw1]
  clear hw1
  obtain ⟨k, hk⟩ : ∃ k, k = w.heap.size + 1 := ⟨_, rfl⟩
  obtain ⟨g, hg⟩ : ∃ g, g = w.heap.size := ⟨_, rfl⟩
  rw [← hk, ← hg] at hb ⊢
  clear hk hg hG
  have HB := Lib.hid hb
  have HC0 := Lib.hid hC0
  clear hb hC0
  go_loopw [7, 5] (fun x v wr => ∃ j : Nat, j ≤ m.nS ∧ x = .int .i64 j ∧ v = .bool (opUp m s j) ∧ w1 = wr) (fun x _ _ => m.nS - (intOf x).toNat)
  case atStart => exact ⟨0, Nat.zero_le _, rfl, rfl, rfl⟩
  case round =>
    obtain ⟨j, hj, rfl, rfl, rfl⟩ := hrel
    obtain ⟨e0, e1, e2, e3, e4, e5, e6, e7, e8, e9⟩ := mcells HB.out.m
    obtain ⟨f0, f1, f2, f3, f4⟩ := scells HB.out.s
    by_cases hlt : j < m.nS
    · have hs := opUp_succ m s j
      obtain ⟨ob, hob⟩ : ∃ ob, ob = opUp m s j := ⟨_, rfl⟩
      rw [← hob] at hs ⊢
      clear hob
      replace hs := Lib.hid hs
      cases ob with
      | true =>
        go_wp2
        go_roundw
        case rel => exact ⟨j + 1, by omega, by go_num, by rw [hs.out]; rfl, by first | rfl | trivial⟩
        case measure => (simp [intOf] <;> omega)
      | false =>
        go_wp2_with (go_at_call 23; refine Calls.mono (refHas_any _ _ _ hopR.out) ?_; rintro e w' ⟨rfl, rfl⟩)
        go_roundw
        case rel => exact ⟨j + 1, by omega, by go_num, by rw [hs.out]; rfl, by first | rfl | trivial⟩
        case measure => (simp [intOf] <;> omega)
    · obtain rfl : j = m.nS := by omega
      clear hlt hj
      obtain ⟨ob, hob⟩ : ∃ ob, ob = opUp m s m.nS := ⟨_, rfl⟩
      rw [← hob] at hU ⊢
      clear hob
      go_wp2_with fail
      clear e0 e1 e2 e3 e4 e5 e6 e7 e8 e9 f0 f1 f2 f3 f4
      go_loopw [8, 6] (fun x v wr => ∃ j : Nat, j ≤ m.ev.length ∧ x = .int .i64 j ∧ v = .bool (frUp m s j) ∧ Hid (Chg (fun _ => False) w1 wr)) (fun x _ _ => m.ev.length - (intOf x).toNat)
      case atStart => exact ⟨0, Nat.zero_le _, rfl, rfl, Chg.refl _ _⟩
      case round =>
        obtain ⟨j, hj, rfl, rfl, hC⟩ := hrel
        have hBr := HB.out.later hC.out
        obtain ⟨e0, e1, e2, e3, e4, e5, e6, e7, e8, e9⟩ := mcells hBr.m
        obtain ⟨f0, f1, f2, f3, f4⟩ := scells hBr.s
        clear hBr
        by_cases hlt : j < m.ev.length
        · have hs := Lib.hid (frUp_succ m s j)
          obtain ⟨fb, hfb⟩ : ∃ fb, fb = frUp m s j := ⟨_, rfl⟩
          rw [← hfb] at hs ⊢
          clear hfb
          go_wp2_with fail
          clear e0 e1 e2 e3 e4 e5 e6 e7 e8 e9 f0 f1 f2 f3 f4
          go_loopw [9, 6] (fun x v wt => ∃ i : Nat, i ≤ m.nU ∧ x = .int .i64 i ∧ v = .bool (fb || frRow m s j i) ∧ Hid (Chg (fun _ => False) w1 wt)) (fun x _ _ => m.nU - (intOf x).toNat)
          case atStart => exact ⟨0, Nat.zero_le _, rfl, by simp [frRow], hC⟩
          case round =>
            obtain ⟨i, hi, rfl, rfl, hC2⟩ := hrel
            have hBr := HB.out.later hC2.out
            obtain ⟨e0, e1, e2, e3, e4, e5, e6, e7, e8, e9⟩ := mcells hBr.m
            obtain ⟨f0, f1, f2, f3, f4⟩ := scells hBr.s
            clear hBr
            by_cases hlt2 : i < m.nU
            · have hs2 := Lib.hid (frRow_succ m s j i)
              have HFI := Lib.hid (HF.out _ (Chg.trans HC0.out hC2.out (fun _ _ h => h)) j i)
              obtain ⟨vb, hvb⟩ : ∃ vb, vb = (fb || frRow m s j i) := ⟨_, rfl⟩
              rw [← hvb]
              replace hvb := Lib.hid hvb
              cases vb with
              | true =>
                go_wp2
                go_roundw
                case rel => exact ⟨i + 1, by omega, by go_num, by rw [hs2.out, ← Bool.or_assoc, ← hvb.out]; rfl, hC2⟩
                case measure => (simp [intOf] <;> omega)
              | false =>
                go_wp2_with (go_at_call 25; refine HFI.out.mono ?_; rintro r w' ⟨rfl, h⟩; have HC4 := Lib.hid (Chg.trans hC2.out h (fun _ _ h => h)); clear h)
                go_roundw
                case rel => exact ⟨i + 1, by omega, by go_num, by rw [hs2.out, ← Bool.or_assoc, ← hvb.out]; rfl, HC4⟩
                case measure => (simp [intOf] <;> omega)
            · obtain rfl : i = m.nU := by omega
              go_wp2
              go_roundw
              case rel => exact ⟨j + 1, by omega, by go_num, by rw [hs.out], hC2⟩
              case measure => (simp [intOf] <;> omega)
        · obtain rfl : j = m.ev.length := by omega
          clear hlt hj
          obtain ⟨fb, hfb⟩ : ∃ fb, fb = frUp m s m.ev.length := ⟨_, rfl⟩
          rw [← hfb] at hU ⊢
          clear hfb
          have HK := fun (x y : World) (p : Addr) (u : Value) (h : Chg (fun _ => False) x y) (hu : x.cell? p = some u) => keep_cell h (fun _ h => h) hu
          replace HK := Lib.hid HK
          have HC := hC
          cases ob <;> cases fb <;> cases cm <;> cases an
          all_goals
            go_wp2_with (first | (go_at_call 15; refine (HCM.out _ (Chg.trans HC0.out HC.out (fun _ _ h => h))).mono ?_; rintro r w' ⟨rfl, h⟩; have e0 := HK.out _ _ _ _ h e0; have e1 := HK.out _ _ _ _ h e1; have e2 := HK.out _ _ _ _ h e2; have e3 := HK.out _ _ _ _ h e3; have e4 := HK.out _ _ _ _ h e4; have e5 := HK.out _ _ _ _ h e5; have e6 := HK.out _ _ _ _ h e6; have e7 := HK.out _ _ _ _ h e7; have e8 := HK.out _ _ _ _ h e8; have e9 := HK.out _ _ _ _ h e9; have f0 := HK.out _ _ _ _ h f0; have f1 := HK.out _ _ _ _ h f1; have f2 := HK.out _ _ _ _ h f2; have f3 := HK.out _ _ _ _ h f3; have f4 := HK.out _ _ _ _ h f4; have HC := Lib.hid (Chg.trans HC.out h (fun _ _ h => h)); clear h) | (go_at_call 13; refine (HAN.out _ (Chg.trans HC0.out HC.out (fun _ _ h => h))).mono ?_; rintro r w' ⟨rfl, h⟩; have HC := Lib.hid (Chg.trans HC.out h (fun _ _ h => h)); clear h))
            go_ret
            exact ⟨by rw [hU.out]; rfl, Chg.trans HC0.out HC.out (fun _ _ h => h)⟩
end Go.Proofs.Ytfnpfkjdcchipaa
