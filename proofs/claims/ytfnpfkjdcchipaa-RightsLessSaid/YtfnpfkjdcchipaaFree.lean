/- The walk of Free. -/
import Derived.Test.YtfnpfkjdcchipaaKept
namespace Go.Proofs.Ytfnpfkjdcchipaa
open Go.RowKit

def freeB (m : MC) (s : SC) (e u : Int) : Bool := match evAt m e with
  | some x => !com m s && (decide (x.stage < m.nS) && hasB s.op x.stage) && ofB m x.role u && (decide (x.times ≤ 0) || decide (atV s.cnt e < x.times))
  | none => false
set_option maxRecDepth 100000 in
set_option maxHeartbeats 4000000 in
theorem free_any (w : World) (m : MC) (s : SC) (e u : Int) (hG : Good w m s) : Calls Try.prog 19 #[.agg (mA m), .agg (sA s), .int .i64 e, .int .i64 u] w fun r w' => r = .returned (.bool (freeB m s e u)) ∧ Chg (fun _ => False) w w' := by
  have hlens := hG.lens
  unfold maxLen at hlens
  obtain ⟨-, -, -, -, hnS, hnE, -⟩ := hlens
  have hb := Boxes.new w m s
  have hC0 := ((Chg.refl (fun _ => False) w).alloc (.cells (mA m) 32)).alloc (.cells (sA s) 35)
  have HG := Lib.hid hG
  by_cases h0 : ¬ (0 ≤ e ∧ e < m.ev.length)
  · have hv : Hid (freeB m s e u = false) := by show _ = _; unfold freeB; rw [evAt_out h0]
    replace hC0 := Lib.hid hC0
    unfold mA sA at hC0
    unfold mA sA
    clear hb hG
    by_cases h1 : e < 0
    · have d0 : decide (e < 0) = true := by rw [decide_eq_true_iff]; omega
      clear h0 h1
      go_enter Try.func19, Try.ntmps19
      go_wp2
      go_ret
      exact ⟨by rw [hv.out]; rfl, hC0.out⟩
    · have d0 : decide (e < 0) = false := by rw [decide_eq_false_iff_not]; omega
      have d1 : decide ((m.ev.length : Int) ≤ e) = true := by rw [decide_eq_true_iff]; omega
      clear h0 h1
      go_enter Try.func19, Try.ntmps19
      go_wp2
      go_ret
      exact ⟨by rw [hv.out]; rfl, hC0.out⟩
  replace h0 := Decidable.not_not.1 h0
  obtain ⟨x, hx, hx2⟩ := evAt_in h0
  obtain ⟨k, rfl⟩ : ∃ k : Nat, e = k := ⟨e.toNat, by omega⟩
  rw [Int.toNat_natCast] at hx2
  have d0 : decide ((k : Int) < 0) = false := by rw [decide_eq_false_iff_not]; omega
  have hkl : k < m.ev.length := by omega
  obtain ⟨cm, hcm⟩ : ∃ cm, cm = com m s := ⟨_, rfl⟩
  have hv : freeB m s k u = (!cm && (decide (x.stage < m.nS) && hasB s.op x.stage) && ofB m x.role u && (decide (x.times ≤ 0) || decide (atV s.cnt k < x.times))) := by unfold freeB; rw [hx, hcm]
  have hCM := Lib.hid (fun w hg => com_any w m s hg)
  rw [← hcm] at hCM
  replace hC0 := Lib.hid hC0
  replace hb := Lib.hid hb
  obtain ⟨g, hg⟩ : ∃ g, g = w.heap.size := ⟨_, rfl⟩
  obtain ⟨q, hq⟩ : ∃ q, q = w.heap.size + 1 := ⟨_, rfl⟩
  rw [← hq, ← hg] at hb
  cases cm with
  | true =>
    replace hv := Lib.hid hv
    unfold mA sA at hC0 hCM
    unfold mA sA
    clear hb hG hx hx2 hcm h0 hg hq
    go_enter Try.func19, Try.ntmps19
    go_wp2_with (go_at_call 14; refine (hCM.out _ (HG.out.later hC0.out)).mono ?_; rintro e w' ⟨rfl, h⟩; have HE := Lib.hid (Chg.trans hC0.out h (fun _ _ h => h)); clear h)
    go_ret
    exact ⟨by rw [hv.out]; rfl, HE.out⟩
  | false =>
    have HX := Lib.hid hx2
    have HU := Lib.hid hv
    clear hv hG hx hx2 hcm h0
    unfold mA sA
    have hcm2 := hCM
    unfold mA sA at hCM
    go_enter Try.func19, Try.ntmps19
    go_wp2_with fail
    obtain ⟨w1, hw1⟩ : ∃ w1, w1 = (w.alloc (.cells (mA m) 32)).alloc (.cells (sA s) 35) := ⟨_, rfl⟩
    rw [← hw1] at hb hC0
    unfold mA sA at hw1
    rw [← hw1, ← hq, ← hg]
    clear hw1 hg hq
    refine (hCM.out _ (HG.out.later hC0.out)).mono ?_
    rintro e w2 ⟨rfl, h⟩
    have hb2 := hb.out.later h
    have HC2 := Lib.hid (Chg.trans hC0.out h (fun _ _ h => h))
    clear h hb hC0 hCM hcm2
    obtain ⟨e0, e1, e2, e3, e4, e5, e6, e7, e8, e9⟩ := mcells hb2.m
    obtain ⟨f0, f1, f2, f3, f4⟩ := scells hb2.s
    obtain ⟨b, o, hA, hbl, hc⟩ := row_at (f := evC) (C := 5) (fun _ => rfl) (by omega) (HG.out.ev.later HC2.out (fun _ h => h.elim)) HX.out
    have c0 := hc 0 _ rfl
    have c1 := hc 1 _ rfl
    have c2 := hc 2 _ rfl
    have c3 := hc 3 _ rfl
    have c4 := hc 4 _ rfl
    rw [Nat.add_zero] at c0
    rw [hA] at e5 ⊢
    clear hc
    replace hb2 := Lib.hid hb2
    go_wp2_with fail
    --REGION4
    have hbz := Blk.new w2 52 #[.string x.nm, .int .i64 x.role, .int .i64 x.stage, .slice x.sa x.sn x.sc, .int .i64 x.times]
    have hb3 : Boxes (w2.alloc (.cells #[.string x.nm, .int .i64 x.role, .int .i64 x.stage, .slice x.sa x.sn x.sc, .int .i64 x.times] 52)) g q m s := ⟨hb2.out.m.alloc _, hb2.out.s.alloc _⟩
    have HC3 := Lib.hid (HC2.out.alloc (.cells #[.string x.nm, .int .i64 x.role, .int .i64 x.stage, .slice x.sa x.sn x.sc, .int .i64 x.times] 52))
    obtain ⟨z, hz⟩ : ∃ z, z = w2.heap.size := ⟨_, rfl⟩
    rw [← hz] at hbz ⊢
    obtain ⟨w3, hw3⟩ : ∃ w3, w3 = w2.alloc (.cells #[.string x.nm, .int .i64 x.role, .int .i64 x.stage, .slice x.sa x.sn x.sc, .int .i64 x.times] 52) := ⟨_, rfl⟩
    rw [← hw3] at hbz hb3 HC3 ⊢
    clear hw3 hz e0 e1 e2 e3 e4 e5 e6 e7 e8 e9 f0 f1 f2 f3 f4 c0 c1 c2 c3 c4
    obtain ⟨e0, e1, e2, e3, e4, e5, e6, e7, e8, e9⟩ := mcells hb3.m
    obtain ⟨f0, f1, f2, f3, f4⟩ := scells hb3.s
    have v1 : w3.cell? ⟨z, 1, none⟩ = some (.int .i64 x.role) := by rw [hbz.cell]; rfl
    have v2 : w3.cell? ⟨z, 2, none⟩ = some (.int .i64 x.stage) := by rw [hbz.cell]; rfl
    have v4 : w3.cell? ⟨z, 4, none⟩ = some (.int .i64 x.times) := by rw [hbz.cell]; rfl
    rw [hA] at e5
    replace hA := Lib.hid hA
    replace hb3 := Lib.hid hb3
    replace hbz := Lib.hid hbz
    clear hb2
    have HKC := Lib.hid HC3.out
    clear HC3
    replace HC3 := HKC
    have k0 := kept_cell e0
    have k1 := kept_cell e1
    have k2 := kept_cell e2
    have k3 := kept_cell e3
    have k4 := kept_cell e4
    have k5 := kept_cell e5
    have k6 := kept_cell e6
    have k7 := kept_cell e7
    have k8 := kept_cell e8
    have k9 := kept_cell e9
    have j1 := kept_cell f1
    have j4 := kept_cell f4
    have l1 := kept_cell v1
    have l2 := kept_cell v2
    have l4 := kept_cell v4
    clear e0 e1 e2 e3 e4 e5 e6 e7 e8 e9 f0 f1 f2 f3 f4 v1 v2 v4
    obtain ⟨hv, hhv⟩ : ∃ hv, hv = hasB s.op x.stage := ⟨_, rfl⟩
    obtain ⟨ov, hov⟩ : ∃ ov, ov = ofB m x.role u := ⟨_, rfl⟩
    obtain ⟨av, hav⟩ : ∃ av, av = atV s.cnt k := ⟨_, rfl⟩
    have hU := HU.out
    rw [← hhv, ← hov, ← hav] at hU
    simp only [Bool.not_false, Bool.true_and] at hU
    replace hhv := Lib.hid hhv
    replace hov := Lib.hid hov
    replace hav := Lib.hid hav
    have HO := Lib.hid (fun (n : KW w3) => kept_call (of_any n.w m s x.role u (HG.out.later (Chg.trans HC3.out n.h (fun _ _ h => h)))))
    rw [← hov.out] at HO
    have HA := Lib.hid (fun (n : KW w3) => kept_same (at_any n.w s.aC s.cC s.cnt k (HG.out.later (Chg.trans HC3.out n.h (fun _ _ h => h))).cnt))
    rw [← hav.out] at HA
    have HH := Lib.hid (fun (n : KW w3) => kept_same (has_any n.w s.op x.stage))
    rw [← hhv.out] at HH
    unfold mA at HO
    rw [hA.out] at HO
    clear HU
    by_cases h1 : x.stage < m.nS
    · have g1 : decide (x.stage < (m.nS : Int)) = true := by rw [decide_eq_true_iff]; exact h1
      rw [g1, Bool.true_and] at hU
      clear h1
      cases hv with
      | false =>
        simp only [Bool.false_and] at hU
        replace hU := Lib.hid hU
        refine wp_region_kept w3 (Chg.refl _ _) (by kernel_rfl) (by kernel_rfl) ?_
        repeat (go_big_quiet_step (first | exact HH.out _ | exact HO.out _ | exact HA.out _))
        refine wpQuiet_nil ?_
        rintro _ ⟨n4, rfl⟩
        go_wp2
        go_ret
        exact ⟨by rw [hU.out]; rfl, Chg.trans HC3.out n4.h (fun _ _ h => h)⟩
      | true =>
        rw [Bool.true_and] at hU
        cases ov with
        | false =>
          simp only [Bool.false_and] at hU
          replace hU := Lib.hid hU
          refine wp_region_kept w3 (Chg.refl _ _) (by kernel_rfl) (by kernel_rfl) ?_
          repeat (go_big_quiet_step (first | exact HH.out _ | exact HO.out _ | exact HA.out _))
          refine wpQuiet_nil ?_
          rintro _ ⟨n4, rfl⟩
          go_wp2
          go_ret
          exact ⟨by rw [hU.out]; rfl, Chg.trans HC3.out n4.h (fun _ _ h => h)⟩
        | true =>
          rw [Bool.true_and] at hU
          by_cases h2 : x.times ≤ 0
          · have g2 : decide (x.times ≤ 0) = true := by rw [decide_eq_true_iff]; exact h2
            rw [g2, Bool.true_or] at hU
            replace hU := Lib.hid hU
            clear h2
            refine wp_region_kept w3 (Chg.refl _ _) (by kernel_rfl) (by kernel_rfl) ?_
            repeat (go_big_quiet_step (first | exact HH.out _ | exact HO.out _ | exact HA.out _))
            refine wpQuiet_nil ?_
            rintro _ ⟨n4, rfl⟩
            go_wp2
            go_ret
            exact ⟨by rw [hU.out]; rfl, Chg.trans HC3.out n4.h (fun _ _ h => h)⟩
          · have g2 : decide (x.times ≤ 0) = false := by rw [decide_eq_false_iff_not]; exact h2
            rw [g2, Bool.false_or] at hU
            clear h2
            by_cases h3 : av < x.times
            · have g3 : decide (av < x.times) = true := by rw [decide_eq_true_iff]; exact h3
              rw [g3] at hU
              replace hU := Lib.hid hU
              clear h3
              refine wp_region_kept w3 (Chg.refl _ _) (by kernel_rfl) (by kernel_rfl) ?_
              repeat (go_big_quiet_step (first | exact HH.out _ | exact HO.out _ | exact HA.out _))
              refine wpQuiet_nil ?_
              rintro _ ⟨n4, rfl⟩
              go_wp2
              go_ret
              exact ⟨by rw [hU.out]; rfl, Chg.trans HC3.out n4.h (fun _ _ h => h)⟩
            · have g3 : decide (av < x.times) = false := by rw [decide_eq_false_iff_not]; exact h3
              rw [g3] at hU
              replace hU := Lib.hid hU
              clear h3
              refine wp_region_kept w3 (Chg.refl _ _) (by kernel_rfl) (by kernel_rfl) ?_
              repeat (go_big_quiet_step (first | exact HH.out _ | exact HO.out _ | exact HA.out _))
              refine wpQuiet_nil ?_
              rintro _ ⟨n4, rfl⟩
              go_wp2
              go_ret
              exact ⟨by rw [hU.out]; rfl, Chg.trans HC3.out n4.h (fun _ _ h => h)⟩
    · have g1 : decide (x.stage < (m.nS : Int)) = false := by rw [decide_eq_false_iff_not]; exact h1
      rw [g1] at hU
      simp only [Bool.false_and] at hU
      replace hU := Lib.hid hU
      clear h1
      refine wp_region_kept w3 (Chg.refl _ _) (by kernel_rfl) (by kernel_rfl) ?_
      repeat (go_big_quiet_step (first | exact HH.out _ | exact HO.out _ | exact HA.out _))
      refine wpQuiet_nil ?_
      rintro _ ⟨n4, rfl⟩
      go_wp2
      go_ret
      exact ⟨by rw [hU.out]; rfl, Chg.trans HC3.out n4.h (fun _ _ h => h)⟩
end Go.Proofs.Ytfnpfkjdcchipaa
