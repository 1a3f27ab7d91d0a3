/- The walk of Any. -/
import Derived.Test.YtfnpfkjdcchipaaPairs
import Derived.Test.YtfnpfkjdcchipaaEnab
namespace Go.Proofs.Ytfnpfkjdcchipaa
open Go.RowKit Go.Shelf
attribute [local go_sem] Oper.semAt_some

def enP (m : MC) (s : SC) (p : Nat × Nat) : Bool := enB m s p.1 p.2
theorem chg_others {w w' : World} (h : Chg (fun _ => False) w w') : KeepsOthers w w' := ⟨h.size, fun k _ hk _ => (h.block k (Array.getElem?_eq_some_iff.1 hk).1 (fun h => h)).trans hk⟩
set_option maxRecDepth 100000 in
set_option maxHeartbeats 4000000 in
theorem any_calls (w : World) (m : MC) (s : SC) (hG : Good w m s) : Calls Try.prog 12 #[.agg (mA m), .agg (sA s)] w fun r w' => r = .returned (.bool ((rowsP m.nU m.ev.length).any (enP m s))) ∧ Below w.heap.size w w' := by
  refine (callsIn_wide (n := 5)).1 ?_
  have hlens := hG.lens
  have HG := Lib.hid hG
  have hro : Fence.wide.round = none := rfl
  unfold mA sA
  refine callsIn_of_wp_marks Try.func12 rfl trivial ?_ hro
  simp only [Try.ntmps12, List.size_toArray, List.length_cons, List.length_nil, Nat.reduceAdd, Nat.reduceSub, Array.replicate_succ, Array.replicate_zero, List.push_toArray, List.append_toArray, List.nil_append, List.cons_append]
  gi_wp2_with (refine ⟨trivial, ?_⟩; gi_at_call 21; refine (pairs_in Fence.wide _ trivial rfl m _).mono ?_; rintro e w' ⟨rfl, rfl⟩)
  have hcC := ((((Chg.refl (fun _ => False) w).alloc (.cells (mA m) 32)).alloc (.cells (sA s) 35)).alloc (.cells #[.bool false] 4)).alloc (.cells (mA m) 32)
  have hBX0 := Boxes.new w m s
  have hBX : Boxes ((((w.alloc (.cells (mA m) 32)).alloc (.cells (sA s) 35)).alloc (.cells #[.bool false] 4)).alloc (.cells (mA m) 32)) w.heap.size (w.heap.size + 1) m s := ⟨(hBX0.m.alloc _).alloc _, (hBX0.s.alloc _).alloc _⟩
  have hres := (Blk.new ((w.alloc (.cells (mA m) 32)).alloc (.cells (sA s) 35)) 4 #[.bool false]).alloc (.cells (mA m) 32)
  have hpb := Blk.new (((w.alloc (.cells (mA m) 32)).alloc (.cells (sA s) 35)).alloc (.cells #[.bool false] 4)) 32 (mA m)
  have hsz : ((((w.alloc (.cells (mA m) 32)).alloc (.cells (sA s) 35)).alloc (.cells #[.bool false] 4)).alloc (.cells (mA m) 32)).heap.size = w.heap.size + 4 := by simp
  have hs2 : ((w.alloc (.cells (mA m) 32)).alloc (.cells (sA s) 35)).heap.size = w.heap.size + 1 + 1 := by simp
  have hs3 : (((w.alloc (.cells (mA m) 32)).alloc (.cells (sA s) 35)).alloc (.cells #[.bool false] 4)).heap.size = w.heap.size + 1 + 1 + 1 := by simp
  rw [hs2] at hres
  rw [hs3] at hpb
  obtain ⟨w3, hw3⟩ : ∃ w3, w3 = (((w.alloc (.cells (mA m) 32)).alloc (.cells (sA s) 35)).alloc (.cells #[.bool false] 4)).alloc (.cells (mA m) 32) := ⟨_, rfl⟩
  rw [← hw3] at hcC hBX hres hpb hsz
  unfold mA sA at hw3
  unfold mA
  rw [← hw3]
  clear hw3 hs2 hs3 hBX0
  have hE := hlens.2.2.2.2.2.1
  have hU := hlens.2.2.1
  obtain ⟨r, hr⟩ : ∃ r, r = w.heap.size + 1 + 1 := ⟨_, rfl⟩
  rw [← hr] at hres hpb ⊢
  have HBX := Lib.hid hBX
  have HC := Lib.hid hcC
  have HRS := Lib.hid hres
  have hrw : w.heap.size ≤ r := by omega
  have hr3 : r + 1 < w3.heap.size := by omega
  have hwz : w.heap.size ≤ w3.heap.size := by omega
  clear hr hsz
  refine wpIn_rangeFunc_ownF hro (by omega) (gf := 30) (lb := #[.pointer (some ⟨r + 1, 0, none⟩)]) rfl trivial (enters_of Try.func30 (by kernel_rfl) rfl)
    (pairs_stops Fence.wide (5 - 1) trivial hro (by omega) (r + 1) w3.heap.size m hE hU w3 hr3 hpb) belowK_t (belowK_b (Nat.le_refl _)) (Below.refl _ _) (fun _ => rfl)
    (fun pre W => pre.any (enP m s) = false ∧ Below w3.heap.size w3 W)
    (fun c pre W => (c = .ret ∧ pre.any (enP m s) = true ∧ W.cell? ⟨r, 0, none⟩ = some (.bool true)) ∧ Below w.heap.size w W)
    (OwnFrom.and (ownFrom_pure _ _) (ownFrom_below (Nat.le_refl _) (Nat.le_refl _)))
    (fun c => OwnFrom.and (Own.from (fun st A B row hs hg hr => ⟨hs.1, hs.2.1, cell_kept hs.2.2 hg hr⟩) _) (ownFrom_below (Nat.le_refl _) (by omega)))
    ⟨rfl, Below.refl _ _⟩
    (fun x => { tmps := #[.agg #[.slice m.aA m.nA m.cA, .slice m.aI m.nI m.cI, .slice m.aU m.nU m.cU, .slice m.aR m.ro.length m.cR, .slice m.aS m.nS m.cS, .slice m.aE m.ev.length m.cE, .slice m.aG m.gu.length m.cG, .slice m.aM m.mi.length m.cM, .slice m.aD m.so.length m.cD, .slice m.aO m.nO m.cO], .agg #[.slice s.aV s.nV s.cV, .int .i64 s.op, .int .i64 s.dn, .slice s.aD s.did.length s.cD, .slice s.aC s.cnt.length s.cC], .pointer (some ⟨w.heap.size, 0, none⟩), .pointer (some ⟨w.heap.size + 1, 0, none⟩), .pointer (some ⟨r, 0, none⟩), .int .i64 x.1, .int .i64 x.2, .agg #[.slice m.aA m.nA m.cA, .slice m.aI m.nI m.cI, .slice m.aU m.nU m.cU, .slice m.aR m.ro.length m.cR, .slice m.aS m.nS m.cS, .slice m.aE m.ev.length m.cE, .slice m.aG m.gu.length m.cG, .slice m.aM m.mi.length m.cM, .slice m.aD m.so.length m.cD, .slice m.aO m.nO m.cO], .func (.func 30) #[] #[.pointer (some ⟨r + 1, 0, none⟩)], .int .i64 x.1, .int .i64 x.2, undef, undef, undef, undef, undef], defers := [] }) ?assign ?body ?done ?stop
  case assign =>
    intro l x W K hK
    gi_wp2
    exact hK
  case body =>
    rintro l pre x W ⟨hp, hB⟩ _
    have hCW : Chg (fun _ => False) w W := Chg.trans HC.out (Chg.of_below hB (Nat.le_refl _) _) (fun _ _ h => h)
    have hbm := HBX.out.m.below hB HBX.out.m.lt
    have hbs := HBX.out.s.below hB HBX.out.s.lt
    have hbr := HRS.out.below hB HRS.out.lt
    obtain ⟨e0, e1, e2, e3, e4, e5, e6, e7, e8, e9⟩ := mcells hbm
    obtain ⟨f0, f1, f2, f3, f4⟩ := scells hbs
    have HEn := en_any W m s x.1 x.2 (HG.out.later hCW)
    obtain ⟨ev, hev⟩ : ∃ ev, ev = enB m s x.1 x.2 := ⟨_, rfl⟩
    rw [← hev] at HEn
    have hnew : (pre ++ [x]).any (enP m s) = ev := by rw [any_snoc, hp, Bool.false_or, hev]; rfl
    unfold mA sA at HEn
    replace HEn := Lib.hid HEn
    replace hnew := Lib.hid hnew
    replace hbr := Lib.hid hbr
    replace hCW := Lib.hid hCW
    have HBB := Lib.hid hB
    clear hev hp hbm hbs hB
    cases ev with
    | false =>
      gi_wp2_with (refine ⟨trivial, ?_⟩; gi_at_call 18; refine (CallsIn.inRound l (callsIn_wide.2 HEn.out)).mono ?_; rintro q w' ⟨rfl, h⟩; have hCh := Lib.hid h; clear h)
      exact ⟨chg_others hCh.out, hCh.out.below HBB.out.size (fun _ h => h.elim), hnew.out, HBB.out.trans (hCh.out.below HBB.out.size (fun _ h => h.elim))⟩
    | true =>
      gi_wp2_with (refine ⟨trivial, ?_⟩; gi_at_call 18; refine (CallsIn.inRound l (callsIn_wide.2 HEn.out)).mono ?_; rintro q w' ⟨rfl, h⟩; have hCh := Lib.hid h; have hbr2 := Lib.hid (hbr.out.chg h (fun h => h)); have c0 : w'.cell? ⟨r, 0, none⟩ = some (.bool false) := (by rw [hbr2.out.cell]; rfl); have c1 := hbr2.out.frozen 0; clear h)
      refine ⟨(chg_others hCh.out).trans (KeepsOthers.setCell _ _ _), ⟨rfl, hnew.out, World.cell?_setCell_same' _ _ _ (by rw [c0]; rfl)⟩, ?_⟩
      exact ((Chg.trans hCW.out hCh.out (fun _ _ h => h)).below (Nat.le_refl _) (fun _ h => h.elim)).setCell (p := ⟨r, 0, none⟩) hrw _
  case done =>
    rintro D xs W hD rfl ⟨hp, hB⟩ hK
    have hbr := HRS.out.below hB HRS.out.lt
    have c0 : W.cell? ⟨r, 0, none⟩ = some (.bool false) := by rw [hbr.cell]; rfl
    have c1 := hbr.frozen 0
    have hCW : Chg (fun _ => False) w W := Chg.trans HC.out (Chg.of_below hB (Nat.le_refl _) _) (fun _ _ h => h)
    have hBW := hCW.below (Nat.le_refl _) (fun _ h => h.elim)
    gi_wp2
    have hK' := (KeepsOthers.setCell W ⟨r, 0, none⟩ (.bool false)).same D _ hK rfl
    refine ⟨by simp, .inl ⟨_, _, rfl, run_takeDeferred hK', ?_⟩⟩
    have hc5 := cell_kept (World.cell?_setCell_same' W ⟨r, 0, none⟩ (.bool false) (by rw [c0]; rfl)) (grownBy_putObj' _ D (.deferred none)) (fun r e => by cases e; exact ⟨_, hK', rfl⟩)
    refine ⟨.bool false, ?_, by rw [hp], ?_⟩
    · simp [results, Try.f12, go_sem, hc5]
    · exact (hBW.setCell (p := ⟨r, 0, none⟩) hrw _).trans (belowK_b (w := w) (Nat.le_refl _) _ D _ _ (by omega) hK' rfl rfl)
  case stop =>
    rintro D c pre W hD hSp ⟨⟨rfl, hany, hcr⟩, hB⟩ hK
    have hfull : (rowsP m.nU m.ev.length).any (enP m s) = true := by
      obtain ⟨t, ht⟩ := hSp
      rw [← ht, List.any_append, hany, Bool.true_or]
    gi_wp2
    refine ⟨by simp, .inl ⟨_, _, rfl, run_takeDeferred hK, ?_⟩⟩
    have hc5 := cell_kept hcr (grownBy_putObj' _ D (.deferred none)) (fun r e => by cases e; exact ⟨_, hK, rfl⟩)
    refine ⟨.bool true, ?_, by rw [hfull], ?_⟩
    · simp [results, Try.f12, go_sem, hc5]
    · exact hB.trans (belowK_b (w := w) (Nat.le_refl _) W D _ _ (by omega) hK rfl rfl)
end Go.Proofs.Ytfnpfkjdcchipaa
