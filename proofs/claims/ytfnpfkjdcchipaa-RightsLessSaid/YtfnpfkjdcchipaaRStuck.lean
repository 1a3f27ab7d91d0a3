/- The walk of Stuck. -/
import Derived.Test.YtfnpfkjdcchipaaRAny
import Derived.Test.YtfnpfkjdcchipaaFirst
namespace Go.Proofs.Ytfnpfkjdcchipaa
open Go.RowKit Go.Shelf
attribute [local go_sem] Oper.semAt_some

def frP (m : MC) (s : SC) (p : Nat × Nat) : Bool := freeB m s p.1 p.2
set_option maxRecDepth 100000 in
set_option maxHeartbeats 4000000 in
theorem stuck_calls (w : World) (m : MC) (s : SC) (hG : Good w m s) (hnS : m.nS ≤ 31) : Calls Try.prog 16 #[.agg (mA m), .agg (sA s)] w fun r w' => r = .returned (.bool (opUp m s m.nS && !(rowsP m.nU m.ev.length).any (enP m s) && (rowsP m.nU m.ev.length).any (frP m s))) ∧ Below w.heap.size w w' := by
  obtain ⟨ob, hob⟩ : ∃ ob, ob = opUp m s m.nS := ⟨_, rfl⟩
  obtain ⟨av, hav⟩ : ∃ av, av = (rowsP m.nU m.ev.length).any (enP m s) := ⟨_, rfl⟩
  rw [← hob, ← hav]
  have hlow := opUp_low m s hnS
  rw [← hob] at hlow
  refine (callsIn_wide (n := 5)).1 ?_
  have hlens := hG.lens
  have HG := Lib.hid hG
  have hro : Fence.wide.round = none := rfl
  have hcC := (((Chg.refl (fun _ => False) w).alloc (.cells (mA m) 32)).alloc (.cells (sA s) 35)).alloc (.cells #[.bool false] 4)
  have hBX0 := Boxes.new w m s
  have hBX : Boxes (((w.alloc (.cells (mA m) 32)).alloc (.cells (sA s) 35)).alloc (.cells #[.bool false] 4)) w.heap.size (w.heap.size + 1) m s := ⟨hBX0.m.alloc _, hBX0.s.alloc _⟩
  have hres := Blk.new ((w.alloc (.cells (mA m) 32)).alloc (.cells (sA s) 35)) 4 #[.bool false]
  have hs2 : ((w.alloc (.cells (mA m) 32)).alloc (.cells (sA s) 35)).heap.size = w.heap.size + 1 + 1 := by simp
  rw [hs2] at hres
  unfold mA sA
  refine callsIn_of_wp_marks Try.func16 rfl trivial ?_ hro
  simp only [Try.ntmps16, List.size_toArray, List.length_cons, List.length_nil, Nat.reduceAdd, Nat.reduceSub, Array.replicate_succ, Array.replicate_zero, List.push_toArray, List.append_toArray, List.nil_append, List.cons_append]
  gi_wp2
  obtain ⟨w1, hw1⟩ : ∃ w1, w1 = ((w.alloc (.cells (mA m) 32)).alloc (.cells (sA s) 35)).alloc (.cells #[.bool false] 4) := ⟨_, rfl⟩
  rw [← hw1] at hcC hBX hres
  unfold mA sA at hw1
  rw [← hw1]
  have hsz1 : w1.heap.size = w.heap.size + 1 + 1 + 1 := by rw [hw1]; simp
  clear hw1 hs2 hBX0
  obtain ⟨r, hr⟩ : ∃ r, r = w.heap.size + 1 + 1 := ⟨_, rfl⟩
  rw [← hr] at hres ⊢
  have hrw : w.heap.size ≤ r := by omega
  have hr1 : r < w1.heap.size := by omega
  have hg1 : w.heap.size + 1 < w1.heap.size := by omega
  clear hr hsz1
  obtain ⟨e0, e1, e2, e3, e4, e5, e6, e7, e8, e9⟩ := mcells hBX.m
  obtain ⟨f0, f1, f2, f3, f4⟩ := scells hBX.s
  have k0 := kept_cell e0
  have k1 := kept_cell e1
  have k2 := kept_cell e2
  have k3 := kept_cell e3
  have k4 := kept_cell e4
  have k5 := kept_cell e5
  have k6 := kept_cell e6
  have k7 := kept_cell e7
  have k8 := kept_cell e8
  have k9 := kept_cell e9
  have j0 := kept_cell f0
  have j1 := kept_cell f1
  have j2 := kept_cell f2
  have j3 := kept_cell f3
  have j4 := kept_cell f4
  clear e0 e1 e2 e3 e4 e5 e6 e7 e8 e9 f0 f1 f2 f3 f4
  have HC1 := Lib.hid hcC
  have HB1 := Lib.hid hBX
  have HR1 := Lib.hid hres
  clear hcC hBX hres
  have HF1 := Lib.hid (fun (n : KW w1) => kept_same (first_any n.w m.nS hnS))
  have HA1 := Lib.hid (fun (n : KW w1) => kept_call ((any_calls n.w m s (HG.out.later (Chg.trans HC1.out n.h (fun _ _ h => h)))).mono (fun r w' h => ⟨h.1, Chg.of_below h.2 (Nat.le_refl _) _⟩)))
  rw [← hav] at HA1
  unfold mA sA at HA1
  replace hob := Lib.hid hob
  replace hav := Lib.hid hav
  cases ob with
  | false =>
    refine wpIn_wide.2 ?_
    refine wp_region_kept w1 (Chg.refl _ _) (by kernel_rfl) (by kernel_rfl) ?_
    repeat (go_big_quiet_step (first | exact HF1.out _ | exact HA1.out _))
    refine wpQuiet_nil ?_
    rintro _ ⟨n4, rfl⟩
    have hb4 := HR1.out.chg n4.h (fun h => h)
    have c0 : n4.w.cell? ⟨r, 0, none⟩ = some (.bool false) := by rw [hb4.cell]; rfl
    have c1 := hb4.frozen 0
    have hBW := (Chg.trans HC1.out n4.h (fun _ _ h => h)).below (Nat.le_refl _) (fun _ h => h.elim)
    gi_wp2
    have hc5 := World.cell?_setCell_same' n4.w ⟨r, 0, none⟩ (.bool false) (by rw [c0]; rfl)
    refine ⟨.bool false, ?_, by simp, ?_⟩
    · simp [results, Try.f16, go_sem, hc5]
    · exact hBW.setCell (p := ⟨r, 0, none⟩) hrw _
  | true =>
    refine wpIn_wide.2 ?_
    refine wp_region_kept w1 (Chg.refl _ _) (by kernel_rfl) (by kernel_rfl) ?_
    cases av with
    | true =>
      repeat (go_big_quiet_step (first | exact HF1.out _ | exact HA1.out _))
      refine wpQuiet_nil ?_
      rintro _ ⟨n4, rfl⟩
      have hb4 := HR1.out.chg n4.h (fun h => h)
      have c0 : n4.w.cell? ⟨r, 0, none⟩ = some (.bool false) := by rw [hb4.cell]; rfl
      have c1 := hb4.frozen 0
      have hBW := (Chg.trans HC1.out n4.h (fun _ _ h => h)).below (Nat.le_refl _) (fun _ h => h.elim)
      gi_wp2
      have hc5 := World.cell?_setCell_same' n4.w ⟨r, 0, none⟩ (.bool false) (by rw [c0]; rfl)
      refine ⟨.bool false, ?_, by simp, ?_⟩
      · simp [results, Try.f16, go_sem, hc5]
      · exact hBW.setCell (p := ⟨r, 0, none⟩) hrw _
    | false =>
      repeat (go_big_quiet_step (first | exact HF1.out _ | exact HA1.out _))
      refine wpQuiet_nil ?_
      rintro _ ⟨n4, rfl⟩
      have hcC2 := Chg.trans HC1.out n4.h (fun _ _ h => h)
      have hBX2 := HB1.out.later n4.h
      have hres2 := HR1.out.chg n4.h (fun h => h)
      have hsz4 := n4.h.size
      obtain ⟨w4, h4⟩ := n4
      dsimp only at hcC2 hBX2 hres2 hsz4 ⊢
      obtain ⟨e0, e1, e2, e3, e4, e5, e6, e7, e8, e9⟩ := mcells hBX2.m
      clear k0 k1 k2 k3 k4 k5 k6 k7 k8 k9 j0 j1 j2 j3 j4 h4
      gi_wp2_with (refine ⟨trivial, ?_⟩; gi_at_call 21; refine (pairs_in Fence.wide _ trivial rfl m _).mono ?_; rintro e w' ⟨rfl, rfl⟩)
      obtain ⟨w5, hw5⟩ : ∃ w5, w5 = w4.alloc (.cells (mA m) 32) := ⟨_, rfl⟩
      have hpb := Blk.new w4 32 (mA m)
      have HC := Lib.hid (hcC2.alloc (.cells (mA m) 32))
      have HBX := Lib.hid (show Boxes (w4.alloc (.cells (mA m) 32)) w.heap.size (w.heap.size + 1) m s from ⟨hBX2.m.alloc _, hBX2.s.alloc _⟩)
      have HRS := Lib.hid (hres2.alloc (.cells (mA m) 32))
      have hs5 : (w4.alloc (.cells (mA m) 32)).heap.size = w4.heap.size + 1 := by simp
      rw [← hw5] at hpb HC HBX HRS hs5
      unfold mA at hw5 ⊢
      rw [← hw5]
      clear hw5 e0 e1 e2 e3 e4 e5 e6 e7 e8 e9 hcC2 hBX2 hres2
      have hE := hlens.2.2.2.2.2.1
      have hU := hlens.2.2.1
      obtain ⟨z, hz⟩ : ∃ z, z = w4.heap.size := ⟨_, rfl⟩
      rw [← hz] at hpb ⊢
      have hz5 : z < w5.heap.size := by omega
      have hwz : w.heap.size ≤ w5.heap.size := HC.out.size
      clear hz hs5 hsz4
      refine wpIn_rangeFunc_ownF hro (by omega) (gf := 30) (lb := #[.pointer (some ⟨z, 0, none⟩)]) rfl trivial (enters_of Try.func30 (by kernel_rfl) rfl)
        (pairs_stops Fence.wide (5 - 1) trivial hro (by omega) z w5.heap.size m hE hU w5 hz5 hpb) belowK_t (belowK_b (Nat.le_refl _)) (Below.refl _ _) (fun _ => rfl)
        (fun pre W => pre.any (frP m s) = false ∧ Below w5.heap.size w5 W)
        (fun c pre W => (c = .ret ∧ pre.any (frP m s) = true ∧ W.cell? ⟨r, 0, none⟩ = some (.bool true)) ∧ Below w.heap.size w W)
        (OwnFrom.and (ownFrom_pure _ _) (ownFrom_below (Nat.le_refl _) (Nat.le_refl _)))
        (fun c => OwnFrom.and (Own.from (fun st A B row hs hg hr => ⟨hs.1, hs.2.1, cell_kept hs.2.2 hg hr⟩) _) (ownFrom_below (Nat.le_refl _) (by omega)))
        ⟨rfl, Below.refl _ _⟩
        (fun x => { tmps := #[.agg #[.slice m.aA m.nA m.cA, .slice m.aI m.nI m.cI, .slice m.aU m.nU m.cU, .slice m.aR m.ro.length m.cR, .slice m.aS m.nS m.cS, .slice m.aE m.ev.length m.cE, .slice m.aG m.gu.length m.cG, .slice m.aM m.mi.length m.cM, .slice m.aD m.so.length m.cD, .slice m.aO m.nO m.cO], .agg #[.slice s.aV s.nV s.cV, .int .i64 s.op, .int .i64 s.dn, .slice s.aD s.did.length s.cD, .slice s.aC s.cnt.length s.cC], .pointer (some ⟨w.heap.size, 0, none⟩), .pointer (some ⟨w.heap.size + 1, 0, none⟩), .pointer (some ⟨r, 0, none⟩), .int .i64 x.1, .int .i64 x.2, .pointer (some ⟨w.heap.size + 1, 1, none⟩), .int .i64 s.op, .pointer (some ⟨w.heap.size, 4, none⟩), .slice m.aS m.nS m.cS, .int .i64 m.nS, .int .i64 (2 ^ m.nS - 1), .int .i64 (bits BinOp.and IntKind.i64 s.op (2 ^ m.nS - 1)), .bool false, .bool false, .agg #[.slice m.aA m.nA m.cA, .slice m.aI m.nI m.cI, .slice m.aU m.nU m.cU, .slice m.aR m.ro.length m.cR, .slice m.aS m.nS m.cS, .slice m.aE m.ev.length m.cE, .slice m.aG m.gu.length m.cG, .slice m.aM m.mi.length m.cM, .slice m.aD m.so.length m.cD, .slice m.aO m.nO m.cO], .agg #[.slice s.aV s.nV s.cV, .int .i64 s.op, .int .i64 s.dn, .slice s.aD s.did.length s.cD, .slice s.aC s.cnt.length s.cC], .bool false, .bool false, .agg #[.slice m.aA m.nA m.cA, .slice m.aI m.nI m.cI, .slice m.aU m.nU m.cU, .slice m.aR m.ro.length m.cR, .slice m.aS m.nS m.cS, .slice m.aE m.ev.length m.cE, .slice m.aG m.gu.length m.cG, .slice m.aM m.mi.length m.cM, .slice m.aD m.so.length m.cD, .slice m.aO m.nO m.cO], .func (.func 30) #[] #[.pointer (some ⟨z, 0, none⟩)], .int .i64 x.1, .int .i64 x.2, undef, undef, undef, undef, undef], defers := [] }) ?assign ?body ?done ?stop
      case assign =>
        intro l x W K hK
        gi_wp2
        exact hK
      case body =>
        rintro l pre x W ⟨hp, hB⟩ _
        have hCW : Chg (fun _ => False) w W := Chg.trans HC.out (Chg.of_below hB (Nat.le_refl _) _) (fun _ _ h => h)
        have hbm := HBX.out.m.below hB HBX.out.m.lt
        have hbs := HBX.out.s.below hB HBX.out.s.lt
        have hbr := HRS.out.below hB HRS.out.lt
        obtain ⟨e0, e1, e2, e3, e4, e5, e6, e7, e8, e9⟩ := mcells hbm
        obtain ⟨f0, f1, f2, f3, f4⟩ := scells hbs
        have HEn := free_any W m s x.1 x.2 (HG.out.later hCW)
        obtain ⟨ev, hev⟩ : ∃ ev, ev = freeB m s x.1 x.2 := ⟨_, rfl⟩
        rw [← hev] at HEn
        have hnew : (pre ++ [x]).any (frP m s) = ev := by rw [any_snoc, hp, Bool.false_or, hev]; rfl
        unfold mA sA at HEn
        replace HEn := Lib.hid HEn
        replace hnew := Lib.hid hnew
        replace hbr := Lib.hid hbr
        replace hCW := Lib.hid hCW
        have HBB := Lib.hid hB
        clear hev hp hbm hbs hB
        cases ev with
        | false =>
          gi_wp2_with (refine ⟨trivial, ?_⟩; gi_at_call 19; refine (CallsIn.inRound l (callsIn_wide.2 HEn.out)).mono ?_; rintro q w' ⟨rfl, h⟩; have hCh := Lib.hid h; clear h)
          exact ⟨chg_others hCh.out, hCh.out.below HBB.out.size (fun _ h => h.elim), hnew.out, HBB.out.trans (hCh.out.below HBB.out.size (fun _ h => h.elim))⟩
        | true =>
          gi_wp2_with (refine ⟨trivial, ?_⟩; gi_at_call 19; refine (CallsIn.inRound l (callsIn_wide.2 HEn.out)).mono ?_; rintro q w' ⟨rfl, h⟩; have hCh := Lib.hid h; have hbr2 := Lib.hid (hbr.out.chg h (fun h => h)); have c0 : w'.cell? ⟨r, 0, none⟩ = some (.bool false) := (by rw [hbr2.out.cell]; rfl); have c1 := hbr2.out.frozen 0; clear h)
          refine ⟨(chg_others hCh.out).trans (KeepsOthers.setCell _ _ _), ⟨rfl, hnew.out, World.cell?_setCell_same' _ _ _ (by rw [c0]; rfl)⟩, ?_⟩
          exact ((Chg.trans hCW.out hCh.out (fun _ _ h => h)).below (Nat.le_refl _) (fun _ h => h.elim)).setCell (p := ⟨r, 0, none⟩) hrw _
      case done =>
        rintro D xs W hD rfl ⟨hp, hB⟩ hK
        have hbr := HRS.out.below hB HRS.out.lt
        have c0 : W.cell? ⟨r, 0, none⟩ = some (.bool false) := by rw [hbr.cell]; rfl
        have c1 := hbr.frozen 0
        have hCW : Chg (fun _ => False) w W := Chg.trans HC.out (Chg.of_below hB (Nat.le_refl _) _) (fun _ _ h => h)
        have hBW := hCW.below (Nat.le_refl _) (fun _ h => h.elim)
        gi_wp2
        have hK' := (KeepsOthers.setCell W ⟨r, 0, none⟩ (.bool false)).same D _ hK rfl
        refine ⟨by simp, .inl ⟨_, _, rfl, run_takeDeferred hK', ?_⟩⟩
        have hc5 := cell_kept (World.cell?_setCell_same' W ⟨r, 0, none⟩ (.bool false) (by rw [c0]; rfl)) (grownBy_putObj' _ D (.deferred none)) (fun r e => by cases e; exact ⟨_, hK', rfl⟩)
        refine ⟨.bool false, ?_, by rw [hp]; simp, ?_⟩
        · simp [results, Try.f16, go_sem, hc5]
        · exact (hBW.setCell (p := ⟨r, 0, none⟩) hrw _).trans (belowK_b (w := w) (Nat.le_refl _) _ D _ _ (by omega) hK' rfl rfl)
      case stop =>
        rintro D c pre W hD hSp ⟨⟨rfl, hany, hcr⟩, hB⟩ hK
        have hfull : (rowsP m.nU m.ev.length).any (frP m s) = true := by
          obtain ⟨t, ht⟩ := hSp
          rw [← ht, List.any_append, hany, Bool.true_or]
        gi_wp2
        refine ⟨by simp, .inl ⟨_, _, rfl, run_takeDeferred hK, ?_⟩⟩
        have hc5 := cell_kept hcr (grownBy_putObj' _ D (.deferred none)) (fun r e => by cases e; exact ⟨_, hK, rfl⟩)
        refine ⟨.bool true, ?_, by rw [hfull]; simp, ?_⟩
        · simp [results, Try.f16, go_sem, hc5]
        · exact hB.trans (belowK_b (w := w) (Nat.le_refl _) W D _ _ (by omega) hK rfl rfl)
end Go.Proofs.Ytfnpfkjdcchipaa
