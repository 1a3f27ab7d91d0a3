/- The walks of at, of, and the reference's Had. -/
import Derived.Test.YtfnpfkjdcchipaaCom
namespace Go.Proofs.Ytfnpfkjdcchipaa
open Go.RowKit

def evAt (m : MC) (e : Int) : Option EvC := if 0 ≤ e then m.ev[e.toNat]? else none
def roAt (m : MC) (e : Int) : Option RoC := if 0 ≤ e then m.ro[e.toNat]? else none
def ofB (m : MC) (r u : Int) : Bool := match roAt m r with
  | some x => decide (0 ≤ u ∧ u < m.nU) && hasB x.us u
  | none => false
theorem evAt_in {m : MC} {e : Int} (h : 0 ≤ e ∧ e < m.ev.length) : ∃ x, evAt m e = some x ∧ m.ev[e.toNat]? = some x := by
  refine ⟨m.ev[e.toNat]'(by omega), ?_, List.getElem?_eq_getElem (by omega)⟩
  unfold evAt; rw [if_pos h.1]; exact List.getElem?_eq_getElem (by omega)
theorem evAt_out {m : MC} {e : Int} (h : ¬ (0 ≤ e ∧ e < m.ev.length)) : evAt m e = none := by
  unfold evAt; split
  · rw [List.getElem?_eq_none (by omega)]
  · rfl
theorem roAt_in {m : MC} {e : Int} (h : 0 ≤ e ∧ e < m.ro.length) : ∃ x, roAt m e = some x ∧ m.ro[e.toNat]? = some x := by
  refine ⟨m.ro[e.toNat]'(by omega), ?_, List.getElem?_eq_getElem (by omega)⟩
  unfold roAt; rw [if_pos h.1]; exact List.getElem?_eq_getElem (by omega)
theorem roAt_out {m : MC} {e : Int} (h : ¬ (0 ≤ e ∧ e < m.ro.length)) : roAt m e = none := by
  unfold roAt; split
  · rw [List.getElem?_eq_none (by omega)]
  · rfl
set_option maxHeartbeats 1000000 in
theorem at_any (w : World) (A : Option Addr) (c : Nat) (l : List Int) (i : Int) (hr : Rd w w.heap.size A (l.flatMap inC)) :
    Calls Try.prog 28 #[.slice A l.length c, .int .i64 i] w fun e w' => e = .returned (.int .i64 (atV l i)) ∧ w = w' := by
  by_cases h0 : i < 0
  · have hv : Hid (atV l i = 0) := by show _ = _; unfold atV; rw [if_neg (by omega)]
    have d0 : decide (i < 0) = true := by simpa using h0
    clear hr h0
    go_enter Try.func28, Try.ntmps28
    go_wp2
    go_ret
    exact ⟨by rw [hv.out]; rfl, rfl⟩
  have d0 : decide (i < 0) = false := by simpa using h0
  by_cases h1 : (l.length : Int) ≤ i
  · have hv : Hid (atV l i = 0) := by show _ = _; unfold atV; rw [if_pos (by omega), List.getD_eq_getElem?_getD, List.getElem?_eq_none (by omega)]; rfl
    have d1 : decide ((l.length : Int) ≤ i) = true := by simpa using h1
    clear hr h0 h1
    go_enter Try.func28, Try.ntmps28
    go_wp2
    go_ret
    exact ⟨by rw [hv.out]; rfl, rfl⟩
  have d1 : decide ((l.length : Int) ≤ i) = false := by simpa using h1
  obtain ⟨k, rfl⟩ : ∃ k : Nat, i = k := ⟨i.toNat, by omega⟩
  have hk : k < l.length := by omega
  obtain ⟨b, o, rfl, hb, hc⟩ := row_at (f := inC) (C := 1) (fun _ => rfl) (by omega) hr (List.getElem?_eq_getElem hk)
  have c0 := hc 0 _ rfl
  have hv : Hid (atV l k = l[k]) := by show _ = _; unfold atV; rw [if_pos (by omega), List.getD_eq_getElem?_getD, Int.toNat_natCast, List.getElem?_eq_getElem hk]; rfl
  rw [Nat.mul_one, Nat.add_zero] at c0
  clear hr h0 h1 hc
  go_enter Try.func28, Try.ntmps28
  go_wp2
  go_ret
  exact ⟨by rw [hv.out]; rfl, rfl⟩
set_option maxRecDepth 100000 in
set_option maxHeartbeats 4000000 in
theorem of_any (w : World) (m : MC) (s : SC) (r u : Int) (hG : Good w m s) : Calls Try.prog 27 #[.agg (mA m), .int .i64 r, .int .i64 u] w fun e w' => e = .returned (.bool (ofB m r u)) ∧ Chg (fun _ => False) w w' := by
  have hlens := hG.lens
  have HC := Lib.hid ((Chg.refl (fun _ => False) w).alloc (.cells (mA m) 32))
  unfold maxLen at hlens
  obtain ⟨-, -, hnU, hnR, -⟩ := hlens
  unfold mA at HC
  unfold mA
  by_cases h0 : 0 ≤ r ∧ r < m.ro.length
  · obtain ⟨x, hx, hx2⟩ := roAt_in h0
    obtain ⟨k, rfl⟩ : ∃ k : Nat, r = k := ⟨r.toNat, by omega⟩
    rw [Int.toNat_natCast] at hx2
    have d0 : decide ((0 : Int) ≤ (k : Int)) = true := by rw [decide_eq_true_iff]; omega
    have d1 : decide ((k : Int) < (m.ro.length : Int)) = true := by rw [decide_eq_true_iff]; omega
    obtain ⟨b, o, hA, hb2, hc⟩ := row_at (f := roC) (C := 2) (fun _ => rfl) (by omega) hG.ro hx2
    have c1 := fun ob => World.cell?_alloc_lt w ob _ hb2 |>.trans (hc 1 _ rfl)
    rw [hA] at HC ⊢
    by_cases h1 : 0 ≤ u ∧ u < m.nU
    · have hv : Hid (ofB m k u = hasB x.us u) := by show _ = _; unfold ofB; rw [hx]; simp only; rw [show decide (0 ≤ u ∧ u < (m.nU : Int)) = true by rw [decide_eq_true_iff]; exact h1, Bool.true_and]
      have d2 : decide ((0 : Int) ≤ u) = true := by rw [decide_eq_true_iff]; omega
      have d3 : decide (u < (m.nU : Int)) = true := by rw [decide_eq_true_iff]; omega
      clear hG hx hc hA
      go_enter Try.func27, Try.ntmps27
      go_wp2_with (go_at_call 22; refine (has_any _ _ _).mono ?_; rintro e w' ⟨rfl, rfl⟩)
      go_ret
      exact ⟨by rw [hv.out]; rfl, HC.out⟩
    · have hv : Hid (ofB m k u = false) := by show _ = _; unfold ofB; rw [hx]; simp only; rw [show decide (0 ≤ u ∧ u < (m.nU : Int)) = false by rw [decide_eq_false_iff_not]; exact h1, Bool.false_and]
      clear hG hx hc hA
      by_cases h2 : 0 ≤ u
      · have d2 : decide ((0 : Int) ≤ u) = true := by rw [decide_eq_true_iff]; omega
        have d3 : decide (u < (m.nU : Int)) = false := by rw [decide_eq_false_iff_not]; omega
        clear h1 h2
        go_enter Try.func27, Try.ntmps27
        go_wp2
        go_ret
        exact ⟨by rw [hv.out]; rfl, HC.out⟩
      · have d2 : decide ((0 : Int) ≤ u) = false := by rw [decide_eq_false_iff_not]; omega
        clear h1 h2
        go_enter Try.func27, Try.ntmps27
        go_wp2
        go_ret
        exact ⟨by rw [hv.out]; rfl, HC.out⟩
  · have hv : Hid (ofB m r u = false) := by show _ = _; unfold ofB; rw [roAt_out h0]
    clear hG
    by_cases h2 : 0 ≤ r
    · have d2 : decide ((0 : Int) ≤ r) = true := by rw [decide_eq_true_iff]; omega
      have d3 : decide (r < (m.ro.length : Int)) = false := by rw [decide_eq_false_iff_not]; omega
      clear h0 h2
      go_enter Try.func27, Try.ntmps27
      go_wp2
      go_ret
      exact ⟨by rw [hv.out]; rfl, HC.out⟩
    · have d2 : decide ((0 : Int) ≤ r) = false := by rw [decide_eq_false_iff_not]; omega
      clear h0 h2
      go_enter Try.func27, Try.ntmps27
      go_wp2
      go_ret
      exact ⟨by rw [hv.out]; rfl, HC.out⟩
set_option maxRecDepth 100000 in
set_option maxHeartbeats 4000000 in
theorem had_any (w : World) (m : MC) (s : SC) (e u : Int) (hG : Good w m s) : Calls Try.prog 29 #[.agg (sA s), .int .i64 e, .int .i64 u] w fun r w' => r = .returned (.bool (hasB (atV s.did e) u)) ∧ Chg (fun _ => False) w w' := by
  have hlens := hG.lens2
  unfold maxLen at hlens
  obtain ⟨-, hnD, -⟩ := hlens
  have HC := Lib.hid ((Chg.refl (fun _ => False) w).alloc (.cells (sA s) 35))
  unfold sA at HC
  unfold sA
  by_cases h0 : 0 ≤ e ∧ e < s.did.length
  · obtain ⟨k, rfl⟩ : ∃ k : Nat, e = k := ⟨e.toNat, by omega⟩
    have hk : k < s.did.length := by omega
    have hd : Hid (decide ((0 : Int) ≤ (k : Int) ∧ (k : Int) < (s.did.length : Int)) = true) := by show _ = _; rw [decide_eq_true_iff]; exact h0
    obtain ⟨b, o, hA, hb2, hc⟩ := row_at (f := inC) (C := 1) (fun _ => rfl) (by omega) hG.did (List.getElem?_eq_getElem hk)
    have c1 := fun ob => World.cell?_alloc_lt w ob _ hb2 |>.trans (hc 0 _ rfl)
    rw [Nat.mul_one, Nat.add_zero] at c1
    rw [hA] at HC ⊢
    have hv : Hid (atV s.did k = s.did[k]) := by show _ = _; unfold atV; rw [if_pos (by omega), List.getD_eq_getElem?_getD, Int.toNat_natCast, List.getElem?_eq_getElem hk]; rfl
    have HR := Lib.hid (hG.didR _ (List.getElem_mem hk))
    rw [hv.out]
    clear hG hc hA
    obtain ⟨y, hy⟩ : ∃ y, y = s.did[k] := ⟨_, rfl⟩
    rw [← hy] at c1 HR ⊢
    clear hy hv
    go_enter Try.func29, Try.ntmps29
    go_wp2_with (first | (go_at_call 32; refine (in_any _ _ _).mono ?_; rintro e w' ⟨rfl, rfl⟩; rw [hd.out]) | (go_at_call 23; refine (refHas_any _ _ _ HR.out).mono ?_; rintro e w' ⟨rfl, rfl⟩))
    go_ret
    exact ⟨rfl, HC.out⟩
  · have hv : atV s.did e = 0 := by
      unfold atV; split
      · rw [List.getD_eq_getElem?_getD, List.getElem?_eq_none (by omega)]; rfl
      · rfl
    rw [hv, hasB_zero]
    have hd : Hid (decide ((0 : Int) ≤ e ∧ e < (s.did.length : Int)) = false) := by show _ = _; rw [decide_eq_false_iff_not]; exact h0
    clear hG hv h0
    go_enter Try.func29, Try.ntmps29
    go_wp2_with (go_at_call 32; refine (in_any _ _ _).mono ?_; rintro e w' ⟨rfl, rfl⟩; rw [hd.out])
    go_ret
    exact ⟨rfl, HC.out⟩
end Go.Proofs.Ytfnpfkjdcchipaa
