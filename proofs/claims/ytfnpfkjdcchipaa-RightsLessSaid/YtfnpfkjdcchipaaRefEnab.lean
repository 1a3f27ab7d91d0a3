/- The walk of the reference's Enabled. -/
import Derived.Test.YtfnpfkjdcchipaaEnab
import Derived.Test.YtfnpfkjdcchipaaRefFree
namespace Go.Proofs.Ytfnpfkjdcchipaa
open Go.RowKit

set_option maxRecDepth 100000 in
set_option maxHeartbeats 4000000 in
theorem refEn_any (w : World) (m : MC) (s : SC) (e u : Int) (hG : Good w m s) : Calls Try.prog 20 #[.agg (mA m), .agg (sA s), .int .i64 e, .int .i64 u] w fun r w' => r = .returned (.bool (enB m s e u)) ∧ Chg (fun _ => False) w w' := by
  have hlen := hG.lens.2.2.2.2.2.2.2.2.1
  unfold maxLen at hlen
  have hb := Boxes.new w m s
  have hC0 := ((Chg.refl (fun _ => False) w).alloc (.cells (mA m) 32)).alloc (.cells (sA s) 35)
  have HG := Lib.hid hG
  have HF := Lib.hid (fun (w' : World) (h : Chg (fun _ => False) w w') => refFree_any w' m s e u (hG.later h))
  obtain ⟨fv, hfv⟩ : ∃ fv, fv = freeB m s e u := ⟨_, rfl⟩
  have hU : enB m s e u = (fv && !apB m s e u) := by unfold enB; rw [hfv]
  rw [hU]
  rw [← hfv] at HF
  clear hU hfv
  unfold mA sA at HF
  unfold mA sA
  go_enter Try.func20, Try.ntmps20
  go_wp2_with fail
  obtain ⟨w1, hw1⟩ : ∃ w1, w1 = (w.alloc (.cells (mA m) 32)).alloc (.cells (sA s) 35) := ⟨_, rfl⟩
  rw [← hw1] at hb hC0
  unfold mA sA at hw1
  rw [← hw1]
  clear hw1
  obtain ⟨k, hk⟩ : ∃ k, k = w.heap.size + 1 := ⟨_, rfl⟩
  obtain ⟨g, hg⟩ : ∃ g, g = w.heap.size := ⟨_, rfl⟩
  rw [← hk, ← hg] at hb ⊢
  clear hk hg hG
  refine (HF.out _ hC0).mono ?_
  rintro r w2 ⟨rfl, h⟩
  have HB := Lib.hid (hb.later h)
  have HC0 := Lib.hid (Chg.trans hC0 h (fun _ _ h => h))
  clear h hb hC0 HF
  cases fv with
  | false =>
    go_wp2
    go_ret
    exact ⟨rfl, HC0.out⟩
  | true =>
    go_wp2_with fail
    go_loopw [9] (fun i wr => ∃ j : Nat, j ≤ m.so.length ∧ i = .int .i64 j ∧ Hid ((m.so.take j).any (apX s e u) = false) ∧ Hid (Chg (fun _ => False) w2 wr)) (fun i _ => m.so.length - (intOf i).toNat)
    case atStart => exact ⟨0, Nat.zero_le _, rfl, Lib.hid rfl, Chg.refl _ _⟩
    case round =>
      obtain ⟨j, hj, rfl, hU, hC⟩ := hrel
      have hBr := HB.out.later hC.out
      obtain ⟨-, -, -, -, -, -, -, -, e8, -⟩ := mcells hBr.m
      by_cases hlt : j < m.so.length
      · obtain ⟨x, hx⟩ : ∃ x, m.so[j]? = some x := ⟨_, List.getElem?_eq_getElem hlt⟩
        obtain ⟨b1, o1, hA1, hb1, hc⟩ := row_at (f := soC) (C := 2) (fun _ => rfl) (by omega) (HG.out.so.later (Chg.trans HC0.out hC.out (fun _ _ h => h)) (fun _ h => h.elim)) hx
        have c0 := hc 0 _ rfl
        have c1 := hc 1 _ rfl
        rw [Nat.add_zero] at c0
        rw [hA1] at e8
        have hs : (m.so.take (j + 1)).any (apX s e u) = apX s e u x := by rw [take_get hx, any_snoc, hU.out, Bool.false_or]
        have hyes := fun h => any_get (f := apX s e u) hx h
        clear hx hc
        unfold apX at hs hyes
        obtain ⟨xa, xb⟩ := x
        dsimp only at c0 c1 hs hyes
        replace hBr := Lib.hid hBr
        replace hA1 := Lib.hid hA1
        rw [hA1.out]
        go_wp2_with fail
        go_quiet (fail)
        have HE := Lib.hid (hC.out.drewN nq)
        have hB4 : Boxes (wr.drewN nq) g k m s := ⟨hBr.out.m.drewN nq, hBr.out.s.drewN nq⟩
        obtain ⟨f0, f1, f2, f3, f4⟩ := scells hB4.s
        clear e8 c0 c1
        have HD := Lib.hid (fun (w' : World) (h : Chg (fun _ => False) w2 w') (i : Int) => had_any w' m s i u (HG.out.later (Chg.trans HC0.out h (fun _ _ h => h))))
        unfold sA at HD
        obtain ⟨w4, hw4⟩ : ∃ w4, w4 = wr.drewN nq := ⟨_, rfl⟩
        rw [← hw4] at HE f0 f1 f2 f3 f4 hB4 ⊢
        clear hw4
        replace hB4 := Lib.hid hB4
        obtain ⟨p, hp⟩ : ∃ p, p = hasB (atV s.did xb) u := ⟨_, rfl⟩
        obtain ⟨p2, hp2⟩ : ∃ p2, p2 = hasB (atV s.did xa) u := ⟨_, rfl⟩
        rw [← hp, ← hp2] at hs hyes
        replace hp := Lib.hid hp
        replace hp2 := Lib.hid hp2
        have fin : ∀ v : Bool, (xa == e && p || xb == e && p2) = v → Hid (((m.so.take (j + 1)).any (fun x => (x.1 == e && hasB (atV s.did x.2) u) || (x.2 == e && hasB (atV s.did x.1) u)) = v) ∧ (v = true → apB m s e u = true)) := fun v hv => by
          refine Lib.hid ⟨hs.trans hv, fun h => ?_⟩
          unfold apB apX
          exact hyes (hv.trans h)
        clear hs hyes
        obtain ⟨va, hva⟩ : ∃ va, va = (xa == e) := ⟨_, rfl⟩
        obtain ⟨vb, hvb⟩ : ∃ vb, vb = (xb == e) := ⟨_, rfl⟩
        rw [← hva, ← hvb] at fin
        replace hva := hva.symm
        replace hvb := hvb.symm
        cases va <;> cases vb <;> cases p <;> cases p2
        all_goals
          have hF := fin _ rfl
          clear fin
          simp only [Bool.false_and, Bool.true_and, Bool.or_false, Bool.or_true, Bool.or_self] at hF
          go_wp2_with (go_at_call 29; refine (HD.out _ HE.out _).mono ?_; rintro e w' ⟨rfl, h⟩; (first | rw [← hp.out] | rw [← hp2.out]); have f0 := keep_cell h (fun _ h => h) f0; have f1 := keep_cell h (fun _ h => h) f1; have f2 := keep_cell h (fun _ h => h) f2; have f3 := keep_cell h (fun _ h => h) f3; have f4 := keep_cell h (fun _ h => h) f4; have HE := Lib.hid (Chg.trans HE.out h (fun _ _ h => h)); clear h)
          first
            | (go_roundw
               case rel => exact ⟨j + 1, by omega, by go_num, Lib.hid hF.out.1, HE⟩
               case measure => (simp [intOf] <;> omega))
            | (go_ret; exact ⟨by rw [hF.out.2 (by trivial)]; rfl, Chg.trans HC0.out HE.out (fun _ _ h => h)⟩)
      · obtain rfl : j = m.so.length := by omega
        rw [List.take_length] at hU
        have hno : Hid (apB m s e u = false) := hU
        clear hU hBr
        go_wp2
        go_ret
        exact ⟨by rw [hno.out]; rfl, Chg.trans HC0.out hC.out (fun _ _ h => h)⟩
end Go.Proofs.Ytfnpfkjdcchipaa
