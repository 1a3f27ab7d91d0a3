/- The walk of the law RightsWho. -/
import Derived.Test.YtfnpfkjdcchipaaRtSplit
import Derived.Test.YtfnpfkjdcchipaaRtLess
import Derived.Test.YtfnpfkjdcchipaaGreat
import Derived.Test.YtfnpfkjdcchipaaAwake
import Derived.Test.YtfnpfkjdcchipaaFirst
namespace Go.Proofs.Ytfnpfkjdcchipaa
open Go.RowKit

set_option maxRecDepth 100000 in
set_option maxHeartbeats 8000000 in
theorem law_who (w : World) (m : MC) (s : SC) (e : Int) (hG : Good w m s) : Calls Try.prog 3 #[.agg (mA m), .agg (sA s), .int .i64 e] w fun r w' => r = .returned (.bool true) ∧ Chg (fun _ => False) w w' := by
  have hb := Boxes.new w m s
  have hC0 := ((Chg.refl (fun _ => False) w).alloc (.cells (mA m) 32)).alloc (.cells (sA s) 35)
  have HG := Lib.hid hG
  have GM := Lib.hid (fun (w' : World) (h : Chg (fun _ => False) w w') => great_any w' m s (hG.later h))
  have GS := Lib.hid (fun (w' : World) (h : Chg (fun _ => False) w w') => greatS_any w' m s (hG.later h))
  have HW := Lib.hid (fun (w' : World) (h : Chg (fun _ => False) w w') (hU : m.nU ≤ 1000) => refWho_any w' m s e (hG.later h) hU)
  clear hG
  unfold mA at GM
  unfold sA at GS
  unfold mA sA at HW
  unfold mA sA
  go_enter Try.func3, Try.ntmps3
  go_wp2_with fail
  obtain ⟨w1, hw1⟩ : ∃ w1, w1 = (w.alloc (.cells (mA m) 32)).alloc (.cells (sA s) 35) := ⟨_, rfl⟩
  rw [← hw1] at hb hC0
  unfold mA sA at hw1
  rw [← hw1]
  clear hw1
  obtain ⟨k, hk⟩ : ∃ k, k = w.heap.size + 1 := ⟨_, rfl⟩
  obtain ⟨g, hg⟩ : ∃ g, g = w.heap.size := ⟨_, rfl⟩
  rw [← hk, ← hg] at hb ⊢
  clear hk hg
  have HB := Lib.hid hb
  have HC0 := Lib.hid hC0
  clear hb hC0
  refine Calls.mono (GM.out _ HC0.out) ?_
  rintro r w2 ⟨hr, h⟩
  have HB2 := Lib.hid (HB.out.later h)
  have HC2 := Lib.hid (Chg.trans HC0.out h (fun _ _ h => h))
  clear h
  obtain ⟨e0, e1, e2, e3, e4, e5, e6, e7, e8, e9⟩ := mcells HB2.out.m
  obtain ⟨f0, f1, f2, f3, f4⟩ := scells HB2.out.s
  rcases hr with rfl | ⟨rfl, hnU, hnS⟩
  · clear e0 e1 e2 e3 e4 e5 e6 e7 e8 e9 f0 f1 f2 f3 f4
    go_wp2_with fail
    refine Calls.mono (awake_any _) ?_
    rintro r w3 ⟨rfl, h⟩
    have HC3 := Lib.hid (Chg.trans HC2.out h (fun _ _ h => h))
    clear h
    go_wp2
    go_ret
    exact ⟨rfl, HC3.out⟩
  go_wp2_with fail
  refine Calls.mono (GS.out _ HC2.out) ?_
  rintro r w3 ⟨hr, h⟩
  have HB3 := Lib.hid (HB2.out.later h)
  have HC3 := Lib.hid (Chg.trans HC2.out h (fun _ _ h => h))
  clear h e0 e1 e2 e3 e4 e5 e6 e7 e8 e9 f0 f1 f2 f3 f4
  obtain ⟨e0, e1, e2, e3, e4, e5, e6, e7, e8, e9⟩ := mcells HB3.out.m
  obtain ⟨f0, f1, f2, f3, f4⟩ := scells HB3.out.s
  rcases hr with rfl | rfl
  · clear e0 e1 e2 e3 e4 e5 e6 e7 e8 e9 f0 f1 f2 f3 f4
    go_wp2_with fail
    refine Calls.mono (awake_any _) ?_
    rintro r w4 ⟨rfl, h⟩
    have HC4 := Lib.hid (Chg.trans HC3.out h (fun _ _ h => h))
    clear h
    go_wp2
    go_ret
    exact ⟨rfl, HC4.out⟩
  go_wp2_with fail
  refine Calls.mono (HW.out _ HC3.out (by omega)) ?_
  rintro r w4 ⟨A, c, rfl, hlm, hR, h⟩
  have HB4 := Lib.hid (HB3.out.later h)
  have HC4 := Lib.hid (Chg.trans HC3.out h (fun _ _ h => h))
  have HR := Lib.hid hR
  clear h hR e0 e1 e2 e3 e4 e5 e6 e7 e8 e9 f0 f1 f2 f3 f4
  obtain ⟨e0, e1, e2, e3, e4, e5, e6, e7, e8, e9⟩ := mcells HB4.out.m
  obtain ⟨f0, f1, f2, f3, f4⟩ := scells HB4.out.s
  go_wp2_with fail
  have HD4 := Lib.hid (HC4.out.drewN 1)
  have HBD := Lib.hid HB4.out
  refine wp_region_any (by kernel_rfl) ?_
  change wpAny _ _ _ _ _ _ _ (World.drew _)
  refine wpAny_take (i := 4) (v := ?_) rfl (by kernel_rfl) (by kernel_rfl) (by kernel_rfl) (fun _ _ _ h => h) (Or.inl ⟨by rfl, ?_⟩) ?_
  case refine_2 => (intro w; go_simp; with_reducible rfl)
  refine wpAny_take (i := 2) (v := ?_) rfl (by kernel_rfl) (by kernel_rfl) (by kernel_rfl) (fun _ _ _ h => h) (Or.inl ⟨by rfl, ?_⟩) ?_
  case refine_2 => (intro w; go_simp; with_reducible rfl)
  refine two_ready (i := 0) (j := 1) (by kernel_rfl) rfl rfl rfl rfl (u := .agg (mA m)) (v := .agg (sA s)) (by unfold mA; go_simp) (by unfold sA; go_simp) (by unfold mA; go_simp) (by unfold sA; go_simp) (by kernel_rfl) (by kernel_rfl) (by omega) (by rfl) ?_
  have HN := Lib.hid (fun (w' : World) (h : Chg (fun _ => False) w w') => who_any w' m s e (HG.out.later h) (by omega))
  unfold mA sA at HN
  refine one_ready (i := 3) (by kernel_rfl) rfl rfl (fun K hK => ?_)
  unfold mA sA
  clear e0 e1 e2 e3 e4 e5 e6 e7 e8 e9 f0 f1 f2 f3 f4 GM GS HW
  go_simp
  refine (HN.out _ HC4.out.drew).mono ?_
  rintro r w5 ⟨B, d, rfl, hlm5, hR5, h⟩
  replace h : Chg (fun _ => False) w4 w5 := Chg.trans (Chg.refl _ w4).drew h (fun _ _ h => h)
  have HB5 := Lib.hid (HB4.out.later h)
  have HC5 := Lib.hid (Chg.trans HC4.out h (fun _ _ h => h))
  have HS := Lib.hid (sameInts w5 B A d c _ hlm5 hR5 (HR.out.later h (fun _ h => h.elim)))
  clear h hR5 HN
  dsimp only
  refine hK _ _ ?_
  clear hK K
  refine one_ready (i := 5) (by kernel_rfl) rfl rfl (fun K hK => ?_)
  go_simp
  refine HS.out.mono ?_
  rintro r w6 ⟨rfl, h⟩
  have HB6 := Lib.hid (HB5.out.later h)
  have HC6 := Lib.hid (Chg.trans HC5.out h (fun _ _ h => h))
  clear h HS
  dsimp only
  refine hK _ _ ?_
  clear hK K
  refine one_ready (i := 6) (by kernel_rfl) rfl rfl (fun K hK => ?_)
  go_simp
  refine hK _ _ ?_
  clear hK K
  have hq : (canB m s e == decide (0 < (whoL m s e m.nU).length)) = true := by unfold canB; simp
  have GG := Lib.hid (fun (n : KW w6) => HG.out.later (Chg.trans HC6.out n.h (fun _ _ h => h)))
  have KC := Lib.hid (fun (n : KW w6) => kept_call (can_any n.w m s e (GG.out n) (by omega)))
  have KA := Lib.hid (fun (n : KW w6) => kept_call ((any_calls n.w m s (GG.out n)).mono fun _ _ ⟨h, hb⟩ => ⟨h, Chg.of_below hb (Nat.le_refl _) _⟩))
  have KB := Lib.hid (fun (n : KW w6) => kept_call (refAny_any n.w m s (GG.out n) (by omega)))
  have KD := Lib.hid (fun (n : KW w6) => kept_call (com_any n.w m s (GG.out n)))
  have KE := Lib.hid (fun (n : KW w6) => kept_call (refCom_any n.w m s (GG.out n)))
  have KF := Lib.hid (fun (n : KW w6) => kept_call ((stuck_calls n.w m s (GG.out n) (by omega)).mono fun _ _ ⟨h, hb⟩ => ⟨h, Chg.of_below hb (Nat.le_refl _) _⟩))
  have KG := Lib.hid (fun (n : KW w6) => kept_call (refStuck_any n.w m s (GG.out n) (by omega)))
  have KH := Lib.hid (fun (n : KW w6) => kept_call (awake_any n.w))
  rw [stuck_same] at KF
  rw [anB_rows] at KA
  obtain ⟨an, han⟩ : ∃ an, an = anB m s := ⟨_, rfl⟩
  obtain ⟨cm, hcm⟩ : ∃ cm, cm = com m s := ⟨_, rfl⟩
  obtain ⟨st, hst⟩ : ∃ st, st = stuckB m s := ⟨_, rfl⟩
  obtain ⟨cb, hcb⟩ : ∃ cb, cb = canB m s e := ⟨_, rfl⟩
  obtain ⟨q, hqq⟩ : ∃ q, q = (whoL m s e m.nU).length := ⟨_, rfl⟩
  rw [← han] at KA KB
  rw [← hcm] at KD KE
  rw [← hst] at KF KG
  rw [← hcb] at hq KC
  rw [← hqq] at hq ⊢
  clear han hcm hst hcb hqq GG
  unfold mA sA at KC KA KB KD KE KF KG
  have b1 : (cb == cb) = true := by simp
  have b2 : (an == an) = true := by simp
  have b3 : (cm == cm) = true := by simp
  have b4 : (st == st) = true := by simp
  obtain ⟨e0, e1, e2, e3, e4, e5, e6, e7, e8, e9⟩ := mcells HB6.out.m
  obtain ⟨f0, f1, f2, f3, f4⟩ := scells HB6.out.s
  have k0 := kept_cell e0
  have k1 := kept_cell e1
  have k2 := kept_cell e2
  have k3 := kept_cell e3
  have k4 := kept_cell e4
  have k5 := kept_cell e5
  have k6 := kept_cell e6
  have k7 := kept_cell e7
  have k8 := kept_cell e8
  have k9 := kept_cell e9
  have j0 := kept_cell f0
  have j1 := kept_cell f1
  have j2 := kept_cell f2
  have j3 := kept_cell f3
  have j4 := kept_cell f4
  clear e0 e1 e2 e3 e4 e5 e6 e7 e8 e9 f0 f1 f2 f3 f4
  refine rest_ready (k := 7) (C := fun w' => ∃ n : KW w6, w' = n.w) ⟨⟨w6, Chg.refl _ _⟩, rfl⟩ (by kernel_rfl) (by simp only [List.drop_succ_cons, List.drop_zero]; rfl) (by kernel_rfl) ?_ (by rfl)
  repeat (go_big_quiet_step (first | exact KC.out _ | exact KA.out _ | exact KB.out _ | exact KD.out _ | exact KE.out _ | exact KF.out _ | exact KG.out _ | exact KH.out _))
  refine wpQuiet_nil ?_
  rintro _ ⟨n4, rfl⟩
  have HE := Lib.hid (Chg.trans HC6.out n4.h (fun _ _ h => h))
  clear k0 k1 k2 k3 k4 k5 k6 k7 k8 k9 j0 j1 j2 j3 j4
  go_wp2
  go_ret
  exact ⟨rfl, HE.out⟩
end Go.Proofs.Ytfnpfkjdcchipaa
