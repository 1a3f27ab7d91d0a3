/- The walk of the law RightsLess. -/
import Derived.Test.YtfnpfkjdcchipaaRtSplit
import Derived.Test.YtfnpfkjdcchipaaRtLess
import Derived.Test.YtfnpfkjdcchipaaGreat
import Derived.Test.YtfnpfkjdcchipaaAwake
import Derived.Test.YtfnpfkjdcchipaaFirst
namespace Go.Proofs.Ytfnpfkjdcchipaa
open Go.RowKit

theorem less_any (w : World) (m : MC) (s : SC) (hG : Good w m s) : Calls Try.prog 12 #[.agg (mA m), .agg (sA s)] w fun r w' => r = .returned (.bool (anB m s)) ∧ Chg (fun _ => False) w w' := by
  have h := any_calls w m s hG
  rw [anB_rows] at h
  exact h.mono fun _ _ ⟨h, hb⟩ => ⟨h, Chg.of_below hb (Nat.le_refl _) _⟩
theorem less_stuck (w : World) (m : MC) (s : SC) (hG : Good w m s) (hnS : m.nS ≤ 31) : Calls Try.prog 16 #[.agg (mA m), .agg (sA s)] w fun r w' => r = .returned (.bool (stuckB m s)) ∧ Chg (fun _ => False) w w' := by
  have h := stuck_calls w m s hG hnS
  rw [stuck_same] at h
  exact h.mono fun _ _ ⟨h, hb⟩ => ⟨h, Chg.of_below hb (Nat.le_refl _) _⟩
theorem Good.noSods {w : World} {m : MC} {s : SC} (h : Good w m s) : Good w (noSods m) s :=
  ⟨h.ro, h.ev, h.gu, h.mi, fun hn => absurd hn (by simp [Go.Proofs.Ytfnpfkjdcchipaa.noSods]), h.did, h.cnt, ⟨h.lens.1, h.lens.2.1, h.lens.2.2.1, h.lens.2.2.2.1, h.lens.2.2.2.2.1, h.lens.2.2.2.2.2.1, h.lens.2.2.2.2.2.2.1, h.lens.2.2.2.2.2.2.2.1, Nat.zero_le _, h.lens.2.2.2.2.2.2.2.2.2⟩, h.lens2, h.opR, h.dnR, h.usR, h.didR⟩
theorem pair_cells {w : World} {p : Nat} {e u : Int} (h : Blk w p 43 #[.int .i64 e, .int .i64 u]) : w.cell? ⟨p, 0, none⟩ = some (.int .i64 e) ∧ w.cell? ⟨p, 1, none⟩ = some (.int .i64 u) := by
  refine ⟨?_, ?_⟩ <;> rw [h.cell] <;> rfl
set_option maxRecDepth 100000 in
set_option maxHeartbeats 16000000 in
theorem law_less (w : World) (m : MC) (s : SC) (e u : Int) (hG : Good w m s) : Calls Try.prog 4 #[.agg (mA m), .agg (sA s), .agg #[.int .i64 e, .int .i64 u]] w fun r w' => r = .returned (.bool true) ∧ Chg (fun _ => False) w w' := by
  have hb : Boxes (((w.alloc (.cells (mA m) 32)).alloc (.cells (sA s) 35)).alloc (.cells #[.int .i64 e, .int .i64 u] 43)) w.heap.size (w.heap.size + 1) m s := ⟨(Boxes.new w m s).m.alloc _, (Boxes.new w m s).s.alloc _⟩
  have hp := Blk.new ((w.alloc (.cells (mA m) 32)).alloc (.cells (sA s) 35)) 43 #[.int .i64 e, .int .i64 u]
  rw [show ((w.alloc (.cells (mA m) 32)).alloc (.cells (sA s) 35)).heap.size = w.heap.size + 1 + 1 by simp] at hp
  have hC0 := (((Chg.refl (fun _ => False) w).alloc (.cells (mA m) 32)).alloc (.cells (sA s) 35)).alloc (.cells #[.int .i64 e, .int .i64 u] 43)
  have HG := Lib.hid hG
  have K5 := Lib.hid (fun (w' : World) (h : Chg (fun _ => False) w w') => great_any w' m s (hG.later h))
  have K6 := Lib.hid (fun (w' : World) (h : Chg (fun _ => False) w w') => greatS_any w' m s (hG.later h))
  have K18 := Lib.hid (fun (w' : World) (h : Chg (fun _ => False) w w') => en_any w' m s e u (hG.later h))
  have K19 := Lib.hid (fun (w' : World) (h : Chg (fun _ => False) w w') => free_any w' m s e u (hG.later h))
  have K16 := Lib.hid (fun (w' : World) (h : Chg (fun _ => False) w w') (hn : m.nS ≤ 31) => less_stuck w' m s (hG.later h) hn)
  have K12 := Lib.hid (fun (w' : World) (h : Chg (fun _ => False) w w') => less_any w' m s (hG.later h))
  have K11 := Lib.hid (fun (w' : World) (h : Chg (fun _ => False) w w') (hn : m.nU ≤ 1000) => can_any w' m s e (hG.later h) hn)
  have K14 := Lib.hid (fun (w' : World) (h : Chg (fun _ => False) w w') => com_any w' m s (hG.later h))
  have F1 := Lib.hid (fun (h : enB m s e u = true) => (⟨en_free h, an_stuck (en_any' h), en_any' h, en_can h⟩ : freeB m s e u = true ∧ stuckB m s = false ∧ anB m s = true ∧ canB m s e = true))
  have F2 := Lib.hid (fun (h : com m s = true) => (⟨com_an h, com_stuck h⟩ : anB m s = false ∧ stuckB m s = false))
  have HN := Lib.hid hG.noSods
  have N18 := Lib.hid (fun (w' : World) (h : Chg (fun _ => False) w w') => en_any w' (noSods m) s e u (HN.out.later h))
  have N16 := Lib.hid (fun (w' : World) (h : Chg (fun _ => False) w w') (hn : m.nS ≤ 31) => less_stuck w' (noSods m) s (HN.out.later h) hn)
  rw [en_noSods] at N18
  rw [stuck_noSods] at N16
  have hx : Hid (mA (noSods m) = (mA m).setIfInBounds 8 (.slice none 0 0)) := rfl
  obtain ⟨an, han⟩ : ∃ an, an = anB m s := ⟨_, rfl⟩
  obtain ⟨cm, hcm⟩ : ∃ cm, cm = com m s := ⟨_, rfl⟩
  obtain ⟨st, hst⟩ : ∃ st, st = stuckB m s := ⟨_, rfl⟩
  obtain ⟨cb, hcb⟩ : ∃ cb, cb = canB m s e := ⟨_, rfl⟩
  obtain ⟨en, hen⟩ : ∃ en, en = enB m s e u := ⟨_, rfl⟩
  obtain ⟨fv, hfv⟩ : ∃ fv, fv = freeB m s e u := ⟨_, rfl⟩
  rw [← hfv] at K19 F1 N18
  rw [← hen] at K18 F1
  rw [← hst] at K16 F1 F2
  rw [← han] at K12 F1 F2
  rw [← hcb] at K11 F1
  rw [← hcm] at K14 F2
  clear han hcm hst hcb hen hfv hG
  have b1 : (fv == fv) = true := by simp
  unfold mA at K5 K14
  unfold sA at K6 K14
  unfold mA sA at K18 K19 K16 K12 K11
  unfold mA sA
  go_enter Try.func4, Try.ntmps4
  go_wp2_with fail
  obtain ⟨w1, hw1⟩ : ∃ w1, w1 = ((w.alloc (.cells (mA m) 32)).alloc (.cells (sA s) 35)).alloc (.cells #[.int .i64 e, .int .i64 u] 43) := ⟨_, rfl⟩
  rw [← hw1] at hb hC0 hp
  unfold mA sA at hw1
  rw [← hw1]
  clear hw1
  obtain ⟨q, hq⟩ : ∃ q, q = w.heap.size + 1 + 1 := ⟨_, rfl⟩
  rw [← hq] at hp ⊢
  clear hq
  obtain ⟨k, hk⟩ : ∃ k, k = w.heap.size + 1 := ⟨_, rfl⟩
  rw [← hk] at hb ⊢
  clear hk
  obtain ⟨g, hg⟩ : ∃ g, g = w.heap.size := ⟨_, rfl⟩
  rw [← hg] at hb ⊢
  clear hg
  have HB := Lib.hid hb
  have HC := Lib.hid hC0
  have HP := Lib.hid hp
  clear hb hC0 hp
  refine Calls.mono (K5.out _ HC.out) ?_
  rintro r w2 ⟨hr, h⟩
  replace HB := Lib.hid (HB.out.later h)
  replace HP := Lib.hid (HP.out.chg h (fun h => h))
  replace HC := Lib.hid (Chg.trans HC.out h (fun _ _ h => h))
  clear h
  obtain ⟨e0, e1, e2, e3, e4, e5, e6, e7, e8, e9⟩ := mcells HB.out.m
  obtain ⟨f0, f1, f2, f3, f4⟩ := scells HB.out.s
  rcases hr with rfl | ⟨rfl, hnU, hnS⟩
  ·
    clear e0 e1 e2 e3 e4 e5 e6 e7 e8 e9 f0 f1 f2 f3 f4
    go_wp2_with fail
    refine Calls.mono (awake_any _) ?_
    rintro r wz ⟨rfl, h⟩
    have HZ := Lib.hid (Chg.trans HC.out h (fun _ _ h => h))
    clear h
    go_wp2
    go_ret
    exact ⟨rfl, HZ.out⟩
  go_wp2_with fail
  refine Calls.mono (K6.out _ HC.out) ?_
  rintro r w3 ⟨hr, h⟩
  replace HB := Lib.hid (HB.out.later h)
  replace HP := Lib.hid (HP.out.chg h (fun h => h))
  replace HC := Lib.hid (Chg.trans HC.out h (fun _ _ h => h))
  clear h e0 e1 e2 e3 e4 e5 e6 e7 e8 e9 f0 f1 f2 f3 f4
  obtain ⟨e0, e1, e2, e3, e4, e5, e6, e7, e8, e9⟩ := mcells HB.out.m
  obtain ⟨f0, f1, f2, f3, f4⟩ := scells HB.out.s
  rcases hr with rfl | rfl
  ·
    clear e0 e1 e2 e3 e4 e5 e6 e7 e8 e9 f0 f1 f2 f3 f4
    go_wp2_with fail
    refine Calls.mono (awake_any _) ?_
    rintro r wz ⟨rfl, h⟩
    have HZ := Lib.hid (Chg.trans HC.out h (fun _ _ h => h))
    clear h
    go_wp2
    go_ret
    exact ⟨rfl, HZ.out⟩
  replace K16 := Lib.hid (fun (w' : World) (h : Chg (fun _ => False) w w') => K16.out w' h (by omega))
  replace K11 := Lib.hid (fun (w' : World) (h : Chg (fun _ => False) w w') => K11.out w' h (by omega))
  replace N16 := Lib.hid (fun (w' : World) (h : Chg (fun _ => False) w w') => N16.out w' h (by omega))
  obtain ⟨p0, p1⟩ := pair_cells HP.out
  go_wp2_with fail
  go_quiet (fail)
  clear p0 p1
  obtain ⟨w5, hw5⟩ : ∃ w5, w5 = w3.drewN nq := ⟨_, rfl⟩
  have h : Chg (fun _ => False) w3 w5 := by rw [hw5]; exact (Chg.refl _ _).drewN nq
  rw [← hw5]
  clear hw5
  replace HB := Lib.hid (HB.out.later h)
  replace HP := Lib.hid (HP.out.chg h (fun h => h))
  replace HC := Lib.hid (Chg.trans HC.out h (fun _ _ h => h))
  clear h e0 e1 e2 e3 e4 e5 e6 e7 e8 e9 f0 f1 f2 f3 f4
  obtain ⟨e0, e1, e2, e3, e4, e5, e6, e7, e8, e9⟩ := mcells HB.out.m
  obtain ⟨f0, f1, f2, f3, f4⟩ := scells HB.out.s
  go_wp2_with fail
  cases en with
  | true =>
    obtain ⟨rfl, rfl, rfl, rfl⟩ := F1.out rfl
    cases cm with
    | true => exact absurd (F2.out rfl).1 (by simp)
    | false =>
      refine Calls.mono (K18.out _ HC.out) ?_
      rintro r x11 ⟨rfl, h⟩
      replace HB := Lib.hid (HB.out.later h)
      replace HP := Lib.hid (HP.out.chg h (fun h => h))
      replace HC := Lib.hid (Chg.trans HC.out h (fun _ _ h => h))
      clear h e0 e1 e2 e3 e4 e5 e6 e7 e8 e9 f0 f1 f2 f3 f4
      obtain ⟨e0, e1, e2, e3, e4, e5, e6, e7, e8, e9⟩ := mcells HB.out.m
      obtain ⟨f0, f1, f2, f3, f4⟩ := scells HB.out.s
      go_wp2_with fail
      refine Calls.mono (K19.out _ HC.out) ?_
      rintro r x12 ⟨rfl, h⟩
      replace HB := Lib.hid (HB.out.later h)
      replace HP := Lib.hid (HP.out.chg h (fun h => h))
      replace HC := Lib.hid (Chg.trans HC.out h (fun _ _ h => h))
      clear h e0 e1 e2 e3 e4 e5 e6 e7 e8 e9 f0 f1 f2 f3 f4
      obtain ⟨e0, e1, e2, e3, e4, e5, e6, e7, e8, e9⟩ := mcells HB.out.m
      obtain ⟨f0, f1, f2, f3, f4⟩ := scells HB.out.s
      go_wp2_with fail
      refine Calls.mono (K16.out _ HC.out) ?_
      rintro r x13 ⟨rfl, h⟩
      replace HB := Lib.hid (HB.out.later h)
      replace HP := Lib.hid (HP.out.chg h (fun h => h))
      replace HC := Lib.hid (Chg.trans HC.out h (fun _ _ h => h))
      clear h e0 e1 e2 e3 e4 e5 e6 e7 e8 e9 f0 f1 f2 f3 f4
      obtain ⟨e0, e1, e2, e3, e4, e5, e6, e7, e8, e9⟩ := mcells HB.out.m
      obtain ⟨f0, f1, f2, f3, f4⟩ := scells HB.out.s
      go_wp2_with fail
      refine Calls.mono (K12.out _ HC.out) ?_
      rintro r x14 ⟨rfl, h⟩
      replace HB := Lib.hid (HB.out.later h)
      replace HP := Lib.hid (HP.out.chg h (fun h => h))
      replace HC := Lib.hid (Chg.trans HC.out h (fun _ _ h => h))
      clear h e0 e1 e2 e3 e4 e5 e6 e7 e8 e9 f0 f1 f2 f3 f4
      obtain ⟨e0, e1, e2, e3, e4, e5, e6, e7, e8, e9⟩ := mcells HB.out.m
      obtain ⟨f0, f1, f2, f3, f4⟩ := scells HB.out.s
      go_wp2_with fail
      refine Calls.mono (K11.out _ HC.out) ?_
      rintro r x15 ⟨rfl, h⟩
      replace HB := Lib.hid (HB.out.later h)
      replace HP := Lib.hid (HP.out.chg h (fun h => h))
      replace HC := Lib.hid (Chg.trans HC.out h (fun _ _ h => h))
      clear h e0 e1 e2 e3 e4 e5 e6 e7 e8 e9 f0 f1 f2 f3 f4
      obtain ⟨e0, e1, e2, e3, e4, e5, e6, e7, e8, e9⟩ := mcells HB.out.m
      obtain ⟨f0, f1, f2, f3, f4⟩ := scells HB.out.s
      go_wp2_with fail
      refine Calls.mono (K14.out _ HC.out) ?_
      rintro r x16 ⟨rfl, h⟩
      replace HB := Lib.hid (HB.out.later h)
      replace HP := Lib.hid (HP.out.chg h (fun h => h))
      replace HC := Lib.hid (Chg.trans HC.out h (fun _ _ h => h))
      clear h e0 e1 e2 e3 e4 e5 e6 e7 e8 e9 f0 f1 f2 f3 f4
      obtain ⟨e0, e1, e2, e3, e4, e5, e6, e7, e8, e9⟩ := mcells HB.out.m
      obtain ⟨f0, f1, f2, f3, f4⟩ := scells HB.out.s
      go_wp2_with fail
      clear e0 e1 e2 e3 e4 e5 e6 e7 e8 e9 f0 f1 f2 f3 f4
      have hz := Blk.new x16 32 (mA (noSods m))
      have hb := Boxes.mk (HB.out.m.alloc (.cells (mA (noSods m)) 32)) (HB.out.s.alloc (.cells (mA (noSods m)) 32))
      have hc := HC.out.alloc (.cells (mA (noSods m)) 32)
      obtain ⟨z, hzz⟩ : ∃ z, z = x16.heap.size := ⟨_, rfl⟩
      obtain ⟨wt, hwt⟩ : ∃ wt, wt = x16.alloc (.cells (mA (noSods m)) 32) := ⟨_, rfl⟩
      rw [← hwt] at hz hb hc
      rw [← hzz] at hz
      dsimp only [mA, noSods, List.length_nil] at hwt
      rw [← hwt, ← hzz]
      clear hwt hzz
      obtain ⟨e0, e1, e2, e3, e4, e5, e6, e7, e8, e9⟩ := mcells hb.m
      obtain ⟨f0, f1, f2, f3, f4⟩ := scells hb.s
      obtain ⟨g0, g1, g2, g3, g4, g5, g6, g7, g8, g9⟩ := mcells hz
      replace hc := Lib.hid hc
      clear hb hz HB HP HC
      dsimp only [noSods, List.length_nil] at g0 g1 g2 g3 g4 g5 g6 g7 g8 g9
      have A18 := Lib.hid (fun (n : KW wt) => kept_call (N18.out n.w (Chg.trans hc.out n.h (fun _ _ h => h))))
      have A19 := Lib.hid (fun (n : KW wt) => kept_call (K19.out n.w (Chg.trans hc.out n.h (fun _ _ h => h))))
      have A16 := Lib.hid (fun (n : KW wt) => kept_call (N16.out n.w (Chg.trans hc.out n.h (fun _ _ h => h))))
      have A7 := Lib.hid (fun (n : KW wt) => kept_call (awake_any n.w))
      dsimp only [mA, noSods, sA, List.length_nil] at A18 A16
      clear N18 N16 K5 K6 K18 K19 K16 K12 K11 K14 F1 F2 HN HG hx
      replace e0 := kept_cell e0
      replace e1 := kept_cell e1
      replace e2 := kept_cell e2
      replace e3 := kept_cell e3
      replace e4 := kept_cell e4
      replace e5 := kept_cell e5
      replace e6 := kept_cell e6
      replace e7 := kept_cell e7
      replace e8 := kept_cell e8
      replace e9 := kept_cell e9
      replace f0 := kept_cell f0
      replace f1 := kept_cell f1
      replace f2 := kept_cell f2
      replace f3 := kept_cell f3
      replace f4 := kept_cell f4
      replace g0 := kept_cell g0
      replace g1 := kept_cell g1
      replace g2 := kept_cell g2
      replace g3 := kept_cell g3
      replace g4 := kept_cell g4
      replace g5 := kept_cell g5
      replace g6 := kept_cell g6
      replace g7 := kept_cell g7
      replace g8 := kept_cell g8
      replace g9 := kept_cell g9
      refine wp_region_kept wt (Chg.refl _ _) (by kernel_rfl) (by kernel_rfl) ?_
      repeat (go_big_quiet_step (first | exact A18.out _ | exact A19.out _ | exact A16.out _ | exact A7.out _))
      refine wpQuiet_nil ?_
      rintro _ ⟨n4, rfl⟩
      have HE := Lib.hid (Chg.trans hc.out n4.h (fun _ _ h => h))
      clear e0 e1 e2 e3 e4 e5 e6 e7 e8 e9 f0 f1 f2 f3 f4 g0 g1 g2 g3 g4 g5 g6 g7 g8 g9
      go_wp2
      go_ret
      exact ⟨rfl, HE.out⟩
  | false =>
    cases cm with
    | true =>
      obtain ⟨rfl, rfl⟩ := F2.out rfl
      refine Calls.mono (K18.out _ HC.out) ?_
      rintro r x17 ⟨rfl, h⟩
      replace HB := Lib.hid (HB.out.later h)
      replace HP := Lib.hid (HP.out.chg h (fun h => h))
      replace HC := Lib.hid (Chg.trans HC.out h (fun _ _ h => h))
      clear h e0 e1 e2 e3 e4 e5 e6 e7 e8 e9 f0 f1 f2 f3 f4
      obtain ⟨e0, e1, e2, e3, e4, e5, e6, e7, e8, e9⟩ := mcells HB.out.m
      obtain ⟨f0, f1, f2, f3, f4⟩ := scells HB.out.s
      go_wp2_with fail
      refine Calls.mono (K14.out _ HC.out) ?_
      rintro r x18 ⟨rfl, h⟩
      replace HB := Lib.hid (HB.out.later h)
      replace HP := Lib.hid (HP.out.chg h (fun h => h))
      replace HC := Lib.hid (Chg.trans HC.out h (fun _ _ h => h))
      clear h e0 e1 e2 e3 e4 e5 e6 e7 e8 e9 f0 f1 f2 f3 f4
      obtain ⟨e0, e1, e2, e3, e4, e5, e6, e7, e8, e9⟩ := mcells HB.out.m
      obtain ⟨f0, f1, f2, f3, f4⟩ := scells HB.out.s
      go_wp2_with fail
      refine Calls.mono (K12.out _ HC.out) ?_
      rintro r x19 ⟨rfl, h⟩
      replace HB := Lib.hid (HB.out.later h)
      replace HP := Lib.hid (HP.out.chg h (fun h => h))
      replace HC := Lib.hid (Chg.trans HC.out h (fun _ _ h => h))
      clear h e0 e1 e2 e3 e4 e5 e6 e7 e8 e9 f0 f1 f2 f3 f4
      obtain ⟨e0, e1, e2, e3, e4, e5, e6, e7, e8, e9⟩ := mcells HB.out.m
      obtain ⟨f0, f1, f2, f3, f4⟩ := scells HB.out.s
      go_wp2_with fail
      refine Calls.mono (K16.out _ HC.out) ?_
      rintro r x20 ⟨rfl, h⟩
      replace HB := Lib.hid (HB.out.later h)
      replace HP := Lib.hid (HP.out.chg h (fun h => h))
      replace HC := Lib.hid (Chg.trans HC.out h (fun _ _ h => h))
      clear h e0 e1 e2 e3 e4 e5 e6 e7 e8 e9 f0 f1 f2 f3 f4
      obtain ⟨e0, e1, e2, e3, e4, e5, e6, e7, e8, e9⟩ := mcells HB.out.m
      obtain ⟨f0, f1, f2, f3, f4⟩ := scells HB.out.s
      go_wp2_with fail
      clear e0 e1 e2 e3 e4 e5 e6 e7 e8 e9 f0 f1 f2 f3 f4
      have hz := Blk.new x20 32 (mA (noSods m))
      have hb := Boxes.mk (HB.out.m.alloc (.cells (mA (noSods m)) 32)) (HB.out.s.alloc (.cells (mA (noSods m)) 32))
      have hc := HC.out.alloc (.cells (mA (noSods m)) 32)
      obtain ⟨z, hzz⟩ : ∃ z, z = x20.heap.size := ⟨_, rfl⟩
      obtain ⟨wt, hwt⟩ : ∃ wt, wt = x20.alloc (.cells (mA (noSods m)) 32) := ⟨_, rfl⟩
      rw [← hwt] at hz hb hc
      rw [← hzz] at hz
      dsimp only [mA, noSods, List.length_nil] at hwt
      rw [← hwt, ← hzz]
      clear hwt hzz
      obtain ⟨e0, e1, e2, e3, e4, e5, e6, e7, e8, e9⟩ := mcells hb.m
      obtain ⟨f0, f1, f2, f3, f4⟩ := scells hb.s
      obtain ⟨g0, g1, g2, g3, g4, g5, g6, g7, g8, g9⟩ := mcells hz
      replace hc := Lib.hid hc
      clear hb hz HB HP HC
      dsimp only [noSods, List.length_nil] at g0 g1 g2 g3 g4 g5 g6 g7 g8 g9
      have A18 := Lib.hid (fun (n : KW wt) => kept_call (N18.out n.w (Chg.trans hc.out n.h (fun _ _ h => h))))
      have A19 := Lib.hid (fun (n : KW wt) => kept_call (K19.out n.w (Chg.trans hc.out n.h (fun _ _ h => h))))
      have A16 := Lib.hid (fun (n : KW wt) => kept_call (N16.out n.w (Chg.trans hc.out n.h (fun _ _ h => h))))
      have A7 := Lib.hid (fun (n : KW wt) => kept_call (awake_any n.w))
      dsimp only [mA, noSods, sA, List.length_nil] at A18 A16
      clear N18 N16 K5 K6 K18 K19 K16 K12 K11 K14 F1 F2 HN HG hx
      replace e0 := kept_cell e0
      replace e1 := kept_cell e1
      replace e2 := kept_cell e2
      replace e3 := kept_cell e3
      replace e4 := kept_cell e4
      replace e5 := kept_cell e5
      replace e6 := kept_cell e6
      replace e7 := kept_cell e7
      replace e8 := kept_cell e8
      replace e9 := kept_cell e9
      replace f0 := kept_cell f0
      replace f1 := kept_cell f1
      replace f2 := kept_cell f2
      replace f3 := kept_cell f3
      replace f4 := kept_cell f4
      replace g0 := kept_cell g0
      replace g1 := kept_cell g1
      replace g2 := kept_cell g2
      replace g3 := kept_cell g3
      replace g4 := kept_cell g4
      replace g5 := kept_cell g5
      replace g6 := kept_cell g6
      replace g7 := kept_cell g7
      replace g8 := kept_cell g8
      replace g9 := kept_cell g9
      refine wp_region_kept wt (Chg.refl _ _) (by kernel_rfl) (by kernel_rfl) ?_
      repeat (go_big_quiet_step (first | exact A18.out _ | exact A19.out _ | exact A16.out _ | exact A7.out _))
      refine wpQuiet_nil ?_
      rintro _ ⟨n4, rfl⟩
      have HE := Lib.hid (Chg.trans hc.out n4.h (fun _ _ h => h))
      clear e0 e1 e2 e3 e4 e5 e6 e7 e8 e9 f0 f1 f2 f3 f4 g0 g1 g2 g3 g4 g5 g6 g7 g8 g9
      go_wp2
      go_ret
      exact ⟨rfl, HE.out⟩
    | false =>
      refine Calls.mono (K18.out _ HC.out) ?_
      rintro r x21 ⟨rfl, h⟩
      replace HB := Lib.hid (HB.out.later h)
      replace HP := Lib.hid (HP.out.chg h (fun h => h))
      replace HC := Lib.hid (Chg.trans HC.out h (fun _ _ h => h))
      clear h e0 e1 e2 e3 e4 e5 e6 e7 e8 e9 f0 f1 f2 f3 f4
      obtain ⟨e0, e1, e2, e3, e4, e5, e6, e7, e8, e9⟩ := mcells HB.out.m
      obtain ⟨f0, f1, f2, f3, f4⟩ := scells HB.out.s
      go_wp2_with fail
      refine Calls.mono (K14.out _ HC.out) ?_
      rintro r x22 ⟨rfl, h⟩
      replace HB := Lib.hid (HB.out.later h)
      replace HP := Lib.hid (HP.out.chg h (fun h => h))
      replace HC := Lib.hid (Chg.trans HC.out h (fun _ _ h => h))
      clear h e0 e1 e2 e3 e4 e5 e6 e7 e8 e9 f0 f1 f2 f3 f4
      obtain ⟨e0, e1, e2, e3, e4, e5, e6, e7, e8, e9⟩ := mcells HB.out.m
      obtain ⟨f0, f1, f2, f3, f4⟩ := scells HB.out.s
      go_wp2_with fail
      clear e0 e1 e2 e3 e4 e5 e6 e7 e8 e9 f0 f1 f2 f3 f4
      have hz := Blk.new x22 32 (mA (noSods m))
      have hb := Boxes.mk (HB.out.m.alloc (.cells (mA (noSods m)) 32)) (HB.out.s.alloc (.cells (mA (noSods m)) 32))
      have hc := HC.out.alloc (.cells (mA (noSods m)) 32)
      obtain ⟨z, hzz⟩ : ∃ z, z = x22.heap.size := ⟨_, rfl⟩
      obtain ⟨wt, hwt⟩ : ∃ wt, wt = x22.alloc (.cells (mA (noSods m)) 32) := ⟨_, rfl⟩
      rw [← hwt] at hz hb hc
      rw [← hzz] at hz
      dsimp only [mA, noSods, List.length_nil] at hwt
      rw [← hwt, ← hzz]
      clear hwt hzz
      obtain ⟨e0, e1, e2, e3, e4, e5, e6, e7, e8, e9⟩ := mcells hb.m
      obtain ⟨f0, f1, f2, f3, f4⟩ := scells hb.s
      obtain ⟨g0, g1, g2, g3, g4, g5, g6, g7, g8, g9⟩ := mcells hz
      replace hc := Lib.hid hc
      clear hb hz HB HP HC
      dsimp only [noSods, List.length_nil] at g0 g1 g2 g3 g4 g5 g6 g7 g8 g9
      have A18 := Lib.hid (fun (n : KW wt) => kept_call (N18.out n.w (Chg.trans hc.out n.h (fun _ _ h => h))))
      have A19 := Lib.hid (fun (n : KW wt) => kept_call (K19.out n.w (Chg.trans hc.out n.h (fun _ _ h => h))))
      have A16 := Lib.hid (fun (n : KW wt) => kept_call (N16.out n.w (Chg.trans hc.out n.h (fun _ _ h => h))))
      have A7 := Lib.hid (fun (n : KW wt) => kept_call (awake_any n.w))
      dsimp only [mA, noSods, sA, List.length_nil] at A18 A16
      clear N18 N16 K5 K6 K18 K19 K16 K12 K11 K14 F1 F2 HN HG hx
      replace e0 := kept_cell e0
      replace e1 := kept_cell e1
      replace e2 := kept_cell e2
      replace e3 := kept_cell e3
      replace e4 := kept_cell e4
      replace e5 := kept_cell e5
      replace e6 := kept_cell e6
      replace e7 := kept_cell e7
      replace e8 := kept_cell e8
      replace e9 := kept_cell e9
      replace f0 := kept_cell f0
      replace f1 := kept_cell f1
      replace f2 := kept_cell f2
      replace f3 := kept_cell f3
      replace f4 := kept_cell f4
      replace g0 := kept_cell g0
      replace g1 := kept_cell g1
      replace g2 := kept_cell g2
      replace g3 := kept_cell g3
      replace g4 := kept_cell g4
      replace g5 := kept_cell g5
      replace g6 := kept_cell g6
      replace g7 := kept_cell g7
      replace g8 := kept_cell g8
      replace g9 := kept_cell g9
      refine wp_region_kept wt (Chg.refl _ _) (by kernel_rfl) (by kernel_rfl) ?_
      repeat (go_big_quiet_step (first | exact A18.out _ | exact A19.out _ | exact A16.out _ | exact A7.out _))
      refine wpQuiet_nil ?_
      rintro _ ⟨n4, rfl⟩
      have HE := Lib.hid (Chg.trans hc.out n4.h (fun _ _ h => h))
      clear e0 e1 e2 e3 e4 e5 e6 e7 e8 e9 f0 f1 f2 f3 f4 g0 g1 g2 g3 g4 g5 g6 g7 g8 g9
      go_wp2
      go_ret
      exact ⟨rfl, HE.out⟩
end Go.Proofs.Ytfnpfkjdcchipaa
