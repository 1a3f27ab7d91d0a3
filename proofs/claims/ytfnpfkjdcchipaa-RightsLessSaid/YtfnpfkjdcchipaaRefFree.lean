/- The walk of the reference's Free. -/
import Derived.Test.YtfnpfkjdcchipaaFree
namespace Go.Proofs.Ytfnpfkjdcchipaa
open Go.RowKit

theorem hasB_pos {a i : Int} (h : hasB a i = true) : 0 ≤ i := by
  unfold hasB at h
  rw [Bool.and_eq_true, decide_eq_true_iff] at h
  exact h.1.1
set_option maxRecDepth 100000 in
set_option maxHeartbeats 4000000 in
theorem refFree_any (w : World) (m : MC) (s : SC) (e u : Int) (hG : Good w m s) : Calls Try.prog 25 #[.agg (mA m), .agg (sA s), .int .i64 e, .int .i64 u] w fun r w' => r = .returned (.bool (freeB m s e u)) ∧ Chg (fun _ => False) w w' := by
  have hlens := hG.lens
  unfold maxLen at hlens
  obtain ⟨-, -, -, hnR, hnS, hnE, -⟩ := hlens
  have hb := Boxes.new w m s
  have hC0 := Lib.hid (((Chg.refl (fun _ => False) w).alloc (.cells (mA m) 32)).alloc (.cells (sA s) 35))
  have HG := Lib.hid hG
  by_cases h0 : ¬ (0 ≤ e ∧ e < m.ev.length)
  · have hv : Hid (freeB m s e u = false) := by show _ = _; unfold freeB; rw [evAt_out h0]
    have i1 : Hid (decide (0 ≤ e ∧ e < (m.ev.length : Int)) = false) := by show _ = _; rw [decide_eq_false_iff_not]; exact h0
    unfold mA sA at hC0
    unfold mA sA
    clear hb hG h0
    go_enter Try.func25, Try.ntmps25
    go_wp2_with (go_at_call 32; refine (in_any _ _ _).mono ?_; rintro e w' ⟨rfl, rfl⟩; rw [i1.out])
    go_ret
    exact ⟨by rw [hv.out]; rfl, hC0.out⟩
  replace h0 := Decidable.not_not.1 h0
  have i1 : Hid (decide (0 ≤ e ∧ e < (m.ev.length : Int)) = true) := by show _ = _; rw [decide_eq_true_iff]; exact h0
  obtain ⟨x, hx, hx2⟩ := evAt_in h0
  obtain ⟨k, rfl⟩ : ∃ k : Nat, e = k := ⟨e.toNat, by omega⟩
  rw [Int.toNat_natCast] at hx2
  have hkl : k < m.ev.length := by omega
  have hv : freeB m s k u = (!com m s && (decide (x.stage < m.nS) && hasB s.op x.stage) && ofB m x.role u && (decide (x.times ≤ 0) || decide (atV s.cnt k < x.times))) := by unfold freeB; rw [hx]
  by_cases h1 : ¬ (0 ≤ u ∧ u < m.nU)
  · have hU : Hid (freeB m s k u = false) := by
      show _ = _
      rw [hv]
      have : ofB m x.role u = false := by
        unfold ofB; split
        · rw [show decide (0 ≤ u ∧ u < (m.nU : Int)) = false by rw [decide_eq_false_iff_not]; exact h1, Bool.false_and]
        · rfl
      rw [this]; simp
    have i2 : Hid (decide (0 ≤ u ∧ u < (m.nU : Int)) = false) := by show _ = _; rw [decide_eq_false_iff_not]; exact h1
    unfold mA sA at hC0
    unfold mA sA
    clear hb hG h0 h1 hv hx hx2
    go_enter Try.func25, Try.ntmps25
    go_wp2_with (go_at_call 32; refine (in_any _ _ _).mono ?_; rintro e w' ⟨rfl, rfl⟩; first | rw [i1.out] | rw [i2.out])
    go_ret
    exact ⟨by rw [hU.out]; rfl, hC0.out⟩
  replace h1 := Decidable.not_not.1 h1
  have i2 : Hid (decide (0 ≤ u ∧ u < (m.nU : Int)) = true) := by show _ = _; rw [decide_eq_true_iff]; exact h1
  obtain ⟨cm, hcm⟩ : ∃ cm, cm = com m s := ⟨_, rfl⟩
  rw [← hcm] at hv
  have HCM := Lib.hid (fun (w' : World) (h : Chg (fun _ => False) w w') => refCom_any w' m s (hG.later h))
  rw [← hcm] at HCM
  obtain ⟨hvb, hhv⟩ : ∃ hvb, hvb = hasB s.op x.stage := ⟨_, rfl⟩
  rw [← hhv] at hv
  have hpos : hvb = true → 0 ≤ x.stage := fun h => hasB_pos (hhv ▸ h)
  have HH := Lib.hid (fun w => refHas_any w s.op x.stage hG.opR)
  rw [← hhv] at HH
  obtain ⟨av, hav⟩ : ∃ av, av = atV s.cnt k := ⟨_, rfl⟩
  rw [← hav] at hv
  replace hcm := Lib.hid hcm
  replace hhv := Lib.hid hhv
  have HX := Lib.hid hx2
  replace hb := Lib.hid hb
  obtain ⟨g, hg⟩ : ∃ g, g = w.heap.size := ⟨_, rfl⟩
  obtain ⟨q, hq⟩ : ∃ q, q = w.heap.size + 1 := ⟨_, rfl⟩
  rw [← hq, ← hg] at hb
  obtain ⟨b, o, hA, hbl, hc⟩ := row_at (f := evC) (C := 5) (fun _ => rfl) (by omega) hG.ev hx2
  have two : ∀ (p : Addr) (v : Value) (o1 o2 : Obj), w.cell? p = some v → ((w.alloc o1).alloc o2).cell? p = some v := fun p v o1 o2 h => by
    have hl := World.block_lt_of_cell? w p h
    rw [World.cell?_alloc_lt _ _ _ (by simp; omega), World.cell?_alloc_lt _ _ _ hl]; exact h
  have c0 := fun o1 o2 => two _ _ o1 o2 (hc 0 _ rfl)
  have c1 := fun o1 o2 => two _ _ o1 o2 (hc 1 _ rfl)
  have c2 := fun o1 o2 => two _ _ o1 o2 (hc 2 _ rfl)
  have c3 := fun o1 o2 => two _ _ o1 o2 (hc 3 _ rfl)
  have c4 := fun o1 o2 => two _ _ o1 o2 (hc 4 _ rfl)
  rw [Nat.add_zero] at c0
  clear hG hx hx2 h0 two hc
  unfold mA sA
  unfold mA sA at HCM
  rw [hA] at HCM ⊢
  go_enter Try.func25, Try.ntmps25
  go_wp2_with (go_at_call 32; refine (in_any _ _ _).mono ?_; rintro e w' ⟨rfl, rfl⟩; first | rw [i1.out] | rw [i2.out])
  obtain ⟨w1, hw1⟩ : ∃ w1, w1 = (w.alloc (.cells (mA m) 32)).alloc (.cells (sA s) 35) := ⟨_, rfl⟩
  rw [← hw1] at hb hC0
  unfold mA sA at hw1
  rw [hA] at hw1
  have hz1 : w1.heap.size = q + 1 := by rw [hw1, hq]; simp
  rw [← hw1, ← hq, ← hg]
  clear hw1 hq hg c0 c1 c2 c3 c4
  have hbz := Blk.new w1 52 #[.string x.nm, .int .i64 x.role, .int .i64 x.stage, .slice x.sa x.sn x.sc, .int .i64 x.times]
  have hb3 : Boxes (w1.alloc (.cells #[.string x.nm, .int .i64 x.role, .int .i64 x.stage, .slice x.sa x.sn x.sc, .int .i64 x.times] 52)) g q m s := ⟨hb.out.m.alloc _, hb.out.s.alloc _⟩
  have HC3 := Lib.hid (hC0.out.alloc (.cells #[.string x.nm, .int .i64 x.role, .int .i64 x.stage, .slice x.sa x.sn x.sc, .int .i64 x.times] 52))
  rw [hz1] at hbz
  obtain ⟨z, hz⟩ : ∃ z, z = q + 1 := ⟨_, rfl⟩
  rw [← hz] at hbz ⊢
  clear hz1
  obtain ⟨w3, hw3⟩ : ∃ w3, w3 = w1.alloc (.cells #[.string x.nm, .int .i64 x.role, .int .i64 x.stage, .slice x.sa x.sn x.sc, .int .i64 x.times] 52) := ⟨_, rfl⟩
  rw [← hw3] at hbz hb3 HC3 ⊢
  clear hw3 hz hb hC0
  obtain ⟨e0, e1, e2, e3, e4, e5, e6, e7, e8, e9⟩ := mcells hb3.m
  obtain ⟨f0, f1, f2, f3, f4⟩ := scells hb3.s
  rw [hA] at e5
  replace hA := Lib.hid hA
  have HRO := Lib.hid (fun (w' : World) (h : Chg (fun _ => False) w w') => (HG.out.later h).ro)
  have HUS := Lib.hid HG.out.usR
  have hopR := Lib.hid HG.out.opR
  replace hv := Lib.hid hv
  replace hpos := Lib.hid hpos
  replace hbz := Lib.hid hbz
  replace hb3 := Lib.hid hb3
  by_cases hcn : k < s.cnt.length
  · have i3 : Hid (decide ((0 : Int) ≤ (k : Int) ∧ (k : Int) < (s.cnt.length : Int)) = true) := by show _ = _; rw [decide_eq_true_iff]; omega
    obtain ⟨b3, o3, hA3, _, hc3⟩ := row_at (f := inC) (C := 1) (fun _ => rfl) (by omega) (HG.out.later HC3.out).cnt (List.getElem?_eq_getElem hcn)
    have t0 := hc3 0 _ rfl
    rw [Nat.mul_one, Nat.add_zero] at t0
    have hv2 : av = s.cnt[k] := by rw [hav]; unfold atV; rw [if_pos (by omega), List.getD_eq_getElem?_getD, Int.toNat_natCast, List.getElem?_eq_getElem hcn]; rfl
    rw [← hv2] at t0
    rw [hA3] at f4
    replace hav := Lib.hid hav
    replace hA3 := Lib.hid hA3
    clear hc3 hv2
    refine (in_any _ _ _).mono ?_
    rintro e w' ⟨rfl, rfl⟩
    rw [i3.out]
    have HC5 := HC3
    rw [hA3.out] at HCM ⊢
    go_wp2_with fail
    refine (HCM.out _ HC3.out).mono ?_
    rintro r w4 ⟨rfl, h⟩
    have HC4 := Lib.hid (Chg.trans HC3.out h (fun _ _ h => h))
    have hb4 := hb3.out.later h
    have hz4 := hbz.out.chg h (fun h => h)
    clear h e0 e1 e2 e3 e4 e5 e6 e7 e8 e9 f0 f1 f2 f3 f4
    obtain ⟨-, -, -, e3, e4, -, -, -, -, -⟩ := mcells hb4.m
    obtain ⟨-, f1, -, -, -⟩ := scells hb4.s
    have v1 : w4.cell? ⟨z, 1, none⟩ = some (.int .i64 x.role) := by rw [hz4.cell]; rfl
    have v2 : w4.cell? ⟨z, 2, none⟩ = some (.int .i64 x.stage) := by rw [hz4.cell]; rfl
    have v4 : w4.cell? ⟨z, 4, none⟩ = some (.int .i64 x.times) := by rw [hz4.cell]; rfl
    clear hb4 hz4
    cases cm with
    | true =>
      have hU : Hid (freeB m s k u = false) := Lib.hid (by rw [hv.out]; simp)
      go_wp2
      go_ret
      exact ⟨by rw [hU.out]; rfl, HC4.out⟩
    | false =>
      by_cases h4 : 0 ≤ x.stage ∧ x.stage < m.nS
      · have i4 : Hid (decide (0 ≤ x.stage ∧ x.stage < (m.nS : Int)) = true) := by show _ = _; rw [decide_eq_true_iff]; exact h4
        have g4 := Lib.hid h4.2
        clear h4
        cases hvb with
        | false =>
          have hU : Hid (freeB m s k u = false) := Lib.hid (by rw [hv.out]; simp)
          go_wp2_with (first | (go_at_call 32; refine (in_any _ _ _).mono ?_; rintro e w' ⟨rfl, rfl⟩; rw [i4.out]) | (go_at_call 23; refine Calls.mono (refHas_any _ _ _ (by exact hopR.out)) ?_; rintro e w' ⟨rfl, rfl⟩; try rw [← hhv.out]))
          go_ret
          exact ⟨by rw [hU.out]; rfl, HC4.out⟩
        | true =>
          by_cases h6 : 0 < x.times
          · have d6 : decide (0 < x.times) = true := by rw [decide_eq_true_iff]; exact h6
            have d6b : decide (x.times ≤ 0) = false := by rw [decide_eq_false_iff_not]; omega
            by_cases h7 : x.times ≤ av
            · have d7 : decide (x.times ≤ av) = true := by rw [decide_eq_true_iff]; exact h7
              have d7b : decide (av < x.times) = false := by rw [decide_eq_false_iff_not]; omega
              have hU : Hid (freeB m s k u = false) := Lib.hid (by rw [hv.out, d6b, d7b]; simp)
              clear h6 h7 d6b d7b
              go_wp2_with (first | (go_at_call 32; refine (in_any _ _ _).mono ?_; rintro e w' ⟨rfl, rfl⟩; rw [i4.out]) | (go_at_call 23; refine Calls.mono (refHas_any _ _ _ (by exact hopR.out)) ?_; rintro e w' ⟨rfl, rfl⟩; try rw [← hhv.out]))
              go_ret
              exact ⟨by rw [hU.out]; rfl, HC4.out⟩
            · have d7 : decide (x.times ≤ av) = false := by rw [decide_eq_false_iff_not]; exact h7
              have d7b := Lib.hid (show av < x.times by omega)
              clear h6 h7 d6b
              by_cases h5 : 0 ≤ x.role ∧ x.role < m.ro.length
              · have i5 : Hid (decide (0 ≤ x.role ∧ x.role < (m.ro.length : Int)) = true) := by show _ = _; rw [decide_eq_true_iff]; exact h5
                obtain ⟨y, hy, hy2⟩ := roAt_in h5
                have hO : ofB m x.role u = hasB y.us u := by unfold ofB; rw [hy]; simp only; rw [show decide (0 ≤ u ∧ u < (m.nU : Int)) = true by rw [decide_eq_true_iff]; exact h1, Bool.true_and]
                have hU : Hid (freeB m s k u = hasB y.us u) := Lib.hid (by rw [hv.out, hO]; simp [g4.out, d7b.out])
                have hus := Lib.hid (HUS.out y (List.mem_of_getElem? hy2))
                obtain ⟨rk, hrk⟩ : ∃ rk : Nat, x.role = rk := ⟨x.role.toNat, by omega⟩
                rw [hrk] at hy2 v1 i5
                rw [Int.toNat_natCast] at hy2
                have hrl : rk < m.ro.length := by omega
                obtain ⟨b5, o5, hA5, hb5, hc5⟩ := row_at (f := roC) (C := 2) (fun _ => rfl) (by omega) (HRO.out _ HC4.out) hy2
                have r1 := hc5 1 _ rfl
                rw [hA5] at e3
                clear hc5 hy hy2 hO hrk h5 hA5
                go_wp2_with (first | (go_at_call 32; refine (in_any _ _ _).mono ?_; rintro e w' ⟨rfl, rfl⟩; first | rw [i4.out] | rw [i5.out]) | (go_at_call 23; refine Calls.mono (refHas_any _ _ _ (by first | exact hopR.out | exact hus.out)) ?_; rintro e w' ⟨rfl, rfl⟩; try rw [← hhv.out]))
                go_ret
                exact ⟨by rw [hU.out]; rfl, HC4.out⟩
              · have i5 : Hid (decide (0 ≤ x.role ∧ x.role < (m.ro.length : Int)) = false) := by show _ = _; rw [decide_eq_false_iff_not]; exact h5
                have hU : Hid (freeB m s k u = false) := Lib.hid (by
                  rw [hv.out]
                  have : ofB m x.role u = false := by unfold ofB; rw [roAt_out h5]
                  rw [this]; simp)
                clear h5
                go_wp2_with (first | (go_at_call 32; refine (in_any _ _ _).mono ?_; rintro e w' ⟨rfl, rfl⟩; first | rw [i4.out] | rw [i5.out]) | (go_at_call 23; refine Calls.mono (refHas_any _ _ _ (by exact hopR.out)) ?_; rintro e w' ⟨rfl, rfl⟩; try rw [← hhv.out]))
                go_ret
                exact ⟨by rw [hU.out]; rfl, HC4.out⟩
          · have d6 : decide (0 < x.times) = false := by rw [decide_eq_false_iff_not]; exact h6
            have d6b := Lib.hid (show x.times ≤ 0 by omega)
            clear h6
            by_cases h5 : 0 ≤ x.role ∧ x.role < m.ro.length
            · have i5 : Hid (decide (0 ≤ x.role ∧ x.role < (m.ro.length : Int)) = true) := by show _ = _; rw [decide_eq_true_iff]; exact h5
              obtain ⟨y, hy, hy2⟩ := roAt_in h5
              have hO : ofB m x.role u = hasB y.us u := by unfold ofB; rw [hy]; simp only; rw [show decide (0 ≤ u ∧ u < (m.nU : Int)) = true by rw [decide_eq_true_iff]; exact h1, Bool.true_and]
              have hU : Hid (freeB m s k u = hasB y.us u) := Lib.hid (by rw [hv.out, hO]; simp [g4.out, d6b.out])
              have hus := Lib.hid (HUS.out y (List.mem_of_getElem? hy2))
              obtain ⟨rk, hrk⟩ : ∃ rk : Nat, x.role = rk := ⟨x.role.toNat, by omega⟩
              rw [hrk] at hy2 v1 i5
              rw [Int.toNat_natCast] at hy2
              have hrl : rk < m.ro.length := by omega
              obtain ⟨b5, o5, hA5, hb5, hc5⟩ := row_at (f := roC) (C := 2) (fun _ => rfl) (by omega) (HRO.out _ HC4.out) hy2
              have r1 := hc5 1 _ rfl
              rw [hA5] at e3
              clear hc5 hy hy2 hO hrk h5 hA5
              go_wp2_with (first | (go_at_call 32; refine (in_any _ _ _).mono ?_; rintro e w' ⟨rfl, rfl⟩; first | rw [i4.out] | rw [i5.out]) | (go_at_call 23; refine Calls.mono (refHas_any _ _ _ (by first | exact hopR.out | exact hus.out)) ?_; rintro e w' ⟨rfl, rfl⟩; try rw [← hhv.out]))
              go_ret
              exact ⟨by rw [hU.out]; rfl, HC4.out⟩
            · have i5 : Hid (decide (0 ≤ x.role ∧ x.role < (m.ro.length : Int)) = false) := by show _ = _; rw [decide_eq_false_iff_not]; exact h5
              have hU : Hid (freeB m s k u = false) := Lib.hid (by
                rw [hv.out]
                have : ofB m x.role u = false := by unfold ofB; rw [roAt_out h5]
                rw [this]; simp)
              clear h5
              go_wp2_with (first | (go_at_call 32; refine (in_any _ _ _).mono ?_; rintro e w' ⟨rfl, rfl⟩; first | rw [i4.out] | rw [i5.out]) | (go_at_call 23; refine Calls.mono (refHas_any _ _ _ (by exact hopR.out)) ?_; rintro e w' ⟨rfl, rfl⟩; try rw [← hhv.out]))
              go_ret
              exact ⟨by rw [hU.out]; rfl, HC4.out⟩
      · have i4 : Hid (decide (0 ≤ x.stage ∧ x.stage < (m.nS : Int)) = false) := by show _ = _; rw [decide_eq_false_iff_not]; exact h4
        have hU : Hid (freeB m s k u = false) := Lib.hid (by
          rw [hv.out]
          have : (decide (x.stage < (m.nS : Int)) && hvb) = false := by
            cases hvb with
            | false => simp
            | true =>
              have := hpos.out rfl
              rw [Bool.and_true, decide_eq_false_iff_not]
              omega
          rw [this]; simp)
        clear h4
        go_wp2_with (go_at_call 32; refine (in_any _ _ _).mono ?_; rintro e w' ⟨rfl, rfl⟩; rw [i4.out])
        go_ret
        exact ⟨by rw [hU.out]; rfl, HC4.out⟩
  · have i3 : Hid (decide ((0 : Int) ≤ (k : Int) ∧ (k : Int) < (s.cnt.length : Int)) = false) := by show _ = _; rw [decide_eq_false_iff_not]; omega
    have hv2 : av = 0 := by rw [hav]; unfold atV; rw [if_pos (by omega), List.getD_eq_getElem?_getD, Int.toNat_natCast, List.getElem?_eq_none (by omega)]; rfl
    subst hv2
    replace hav := Lib.hid hav
    refine (in_any _ _ _).mono ?_
    rintro e w' ⟨rfl, rfl⟩
    rw [i3.out]
    go_wp2_with fail
    refine (HCM.out _ HC3.out).mono ?_
    rintro r w4 ⟨rfl, h⟩
    have HC4 := Lib.hid (Chg.trans HC3.out h (fun _ _ h => h))
    have hb4 := hb3.out.later h
    have hz4 := hbz.out.chg h (fun h => h)
    clear h e0 e1 e2 e3 e4 e5 e6 e7 e8 e9 f0 f1 f2 f3 f4
    obtain ⟨-, -, -, e3, e4, -, -, -, -, -⟩ := mcells hb4.m
    obtain ⟨-, f1, -, -, -⟩ := scells hb4.s
    have v1 : w4.cell? ⟨z, 1, none⟩ = some (.int .i64 x.role) := by rw [hz4.cell]; rfl
    have v2 : w4.cell? ⟨z, 2, none⟩ = some (.int .i64 x.stage) := by rw [hz4.cell]; rfl
    have v4 : w4.cell? ⟨z, 4, none⟩ = some (.int .i64 x.times) := by rw [hz4.cell]; rfl
    clear hb4 hz4
    cases cm with
    | true =>
      have hU : Hid (freeB m s k u = false) := Lib.hid (by rw [hv.out]; simp)
      go_wp2
      go_ret
      exact ⟨by rw [hU.out]; rfl, HC4.out⟩
    | false =>
      by_cases h4 : 0 ≤ x.stage ∧ x.stage < m.nS
      · have i4 : Hid (decide (0 ≤ x.stage ∧ x.stage < (m.nS : Int)) = true) := by show _ = _; rw [decide_eq_true_iff]; exact h4
        have g4 := Lib.hid h4.2
        clear h4
        cases hvb with
        | false =>
          have hU : Hid (freeB m s k u = false) := Lib.hid (by rw [hv.out]; simp)
          go_wp2_with (first | (go_at_call 32; refine (in_any _ _ _).mono ?_; rintro e w' ⟨rfl, rfl⟩; rw [i4.out]) | (go_at_call 23; refine Calls.mono (refHas_any _ _ _ (by exact hopR.out)) ?_; rintro e w' ⟨rfl, rfl⟩; try rw [← hhv.out]))
          go_ret
          exact ⟨by rw [hU.out]; rfl, HC4.out⟩
        | true =>
          by_cases h6 : 0 < x.times
          · have d6 : decide (0 < x.times) = true := by rw [decide_eq_true_iff]; exact h6
            have d6b : decide (x.times ≤ 0) = false := by rw [decide_eq_false_iff_not]; omega
            by_cases h7 : x.times ≤ 0
            · omega
            · have d7 : decide (x.times ≤ 0) = false := by rw [decide_eq_false_iff_not]; exact h7
              have d7b := Lib.hid (show 0 < x.times by omega)
              clear h6 h7 d6b
              by_cases h5 : 0 ≤ x.role ∧ x.role < m.ro.length
              · have i5 : Hid (decide (0 ≤ x.role ∧ x.role < (m.ro.length : Int)) = true) := by show _ = _; rw [decide_eq_true_iff]; exact h5
                obtain ⟨y, hy, hy2⟩ := roAt_in h5
                have hO : ofB m x.role u = hasB y.us u := by unfold ofB; rw [hy]; simp only; rw [show decide (0 ≤ u ∧ u < (m.nU : Int)) = true by rw [decide_eq_true_iff]; exact h1, Bool.true_and]
                have hU : Hid (freeB m s k u = hasB y.us u) := Lib.hid (by rw [hv.out, hO]; simp [g4.out, d7b.out])
                have hus := Lib.hid (HUS.out y (List.mem_of_getElem? hy2))
                obtain ⟨rk, hrk⟩ : ∃ rk : Nat, x.role = rk := ⟨x.role.toNat, by omega⟩
                rw [hrk] at hy2 v1 i5
                rw [Int.toNat_natCast] at hy2
                have hrl : rk < m.ro.length := by omega
                obtain ⟨b5, o5, hA5, hb5, hc5⟩ := row_at (f := roC) (C := 2) (fun _ => rfl) (by omega) (HRO.out _ HC4.out) hy2
                have r1 := hc5 1 _ rfl
                rw [hA5] at e3
                clear hc5 hy hy2 hO hrk h5 hA5
                go_wp2_with (first | (go_at_call 32; refine (in_any _ _ _).mono ?_; rintro e w' ⟨rfl, rfl⟩; first | rw [i4.out] | rw [i5.out]) | (go_at_call 23; refine Calls.mono (refHas_any _ _ _ (by first | exact hopR.out | exact hus.out)) ?_; rintro e w' ⟨rfl, rfl⟩; try rw [← hhv.out]))
                go_ret
                exact ⟨by rw [hU.out]; rfl, HC4.out⟩
              · have i5 : Hid (decide (0 ≤ x.role ∧ x.role < (m.ro.length : Int)) = false) := by show _ = _; rw [decide_eq_false_iff_not]; exact h5
                have hU : Hid (freeB m s k u = false) := Lib.hid (by
                  rw [hv.out]
                  have : ofB m x.role u = false := by unfold ofB; rw [roAt_out h5]
                  rw [this]; simp)
                clear h5
                go_wp2_with (first | (go_at_call 32; refine (in_any _ _ _).mono ?_; rintro e w' ⟨rfl, rfl⟩; first | rw [i4.out] | rw [i5.out]) | (go_at_call 23; refine Calls.mono (refHas_any _ _ _ (by exact hopR.out)) ?_; rintro e w' ⟨rfl, rfl⟩; try rw [← hhv.out]))
                go_ret
                exact ⟨by rw [hU.out]; rfl, HC4.out⟩
          · have d6 : decide (0 < x.times) = false := by rw [decide_eq_false_iff_not]; exact h6
            have d6b := Lib.hid (show x.times ≤ 0 by omega)
            clear h6
            by_cases h5 : 0 ≤ x.role ∧ x.role < m.ro.length
            · have i5 : Hid (decide (0 ≤ x.role ∧ x.role < (m.ro.length : Int)) = true) := by show _ = _; rw [decide_eq_true_iff]; exact h5
              obtain ⟨y, hy, hy2⟩ := roAt_in h5
              have hO : ofB m x.role u = hasB y.us u := by unfold ofB; rw [hy]; simp only; rw [show decide (0 ≤ u ∧ u < (m.nU : Int)) = true by rw [decide_eq_true_iff]; exact h1, Bool.true_and]
              have hU : Hid (freeB m s k u = hasB y.us u) := Lib.hid (by rw [hv.out, hO]; simp [g4.out, d6b.out])
              have hus := Lib.hid (HUS.out y (List.mem_of_getElem? hy2))
              obtain ⟨rk, hrk⟩ : ∃ rk : Nat, x.role = rk := ⟨x.role.toNat, by omega⟩
              rw [hrk] at hy2 v1 i5
              rw [Int.toNat_natCast] at hy2
              have hrl : rk < m.ro.length := by omega
              obtain ⟨b5, o5, hA5, hb5, hc5⟩ := row_at (f := roC) (C := 2) (fun _ => rfl) (by omega) (HRO.out _ HC4.out) hy2
              have r1 := hc5 1 _ rfl
              rw [hA5] at e3
              clear hc5 hy hy2 hO hrk h5 hA5
              go_wp2_with (first | (go_at_call 32; refine (in_any _ _ _).mono ?_; rintro e w' ⟨rfl, rfl⟩; first | rw [i4.out] | rw [i5.out]) | (go_at_call 23; refine Calls.mono (refHas_any _ _ _ (by first | exact hopR.out | exact hus.out)) ?_; rintro e w' ⟨rfl, rfl⟩; try rw [← hhv.out]))
              go_ret
              exact ⟨by rw [hU.out]; rfl, HC4.out⟩
            · have i5 : Hid (decide (0 ≤ x.role ∧ x.role < (m.ro.length : Int)) = false) := by show _ = _; rw [decide_eq_false_iff_not]; exact h5
              have hU : Hid (freeB m s k u = false) := Lib.hid (by
                rw [hv.out]
                have : ofB m x.role u = false := by unfold ofB; rw [roAt_out h5]
                rw [this]; simp)
              clear h5
              go_wp2_with (first | (go_at_call 32; refine (in_any _ _ _).mono ?_; rintro e w' ⟨rfl, rfl⟩; first | rw [i4.out] | rw [i5.out]) | (go_at_call 23; refine Calls.mono (refHas_any _ _ _ (by exact hopR.out)) ?_; rintro e w' ⟨rfl, rfl⟩; try rw [← hhv.out]))
              go_ret
              exact ⟨by rw [hU.out]; rfl, HC4.out⟩
      · have i4 : Hid (decide (0 ≤ x.stage ∧ x.stage < (m.nS : Int)) = false) := by show _ = _; rw [decide_eq_false_iff_not]; exact h4
        have hU : Hid (freeB m s k u = false) := Lib.hid (by
          rw [hv.out]
          have : (decide (x.stage < (m.nS : Int)) && hvb) = false := by
            cases hvb with
            | false => simp
            | true =>
              have := hpos.out rfl
              rw [Bool.and_true, decide_eq_false_iff_not]
              omega
          rw [this]; simp)
        clear h4
        go_wp2_with (go_at_call 32; refine (in_any _ _ _).mono ?_; rintro e w' ⟨rfl, rfl⟩; rw [i4.out])
        go_ret
        exact ⟨by rw [hU.out]; rfl, HC4.out⟩
end Go.Proofs.Ytfnpfkjdcchipaa
