/- The reference's binder: val, Inst. -/
import Derived.Test.YtpppgnphblbbcaaBnForm
import Derived.Test.YtpppgnphblbbcaaNmRead
namespace Go.Proofs.Ytpppgnphblbbcaa
open Go.RowKit

theorem val_ret2 {fn : Func} {p q : Tmp} (h : fn.results = #[.cell p 75, .tmp q]) {R : Ending → World → Prop} {a : Act} {w : World} {g : Nat} {c0 c1 : Value} (ht : a.tmps.getD p undef = .pointer (some ⟨g, 0, none⟩))
    (hB : Blk w g 75 #[c0, c1]) (hd : a.defers = []) (hR : R (.returned (.tuple #[.agg #[c0, c1], a.tmps.getD q undef])) w) : bodyPost Try.prog fn R .ret a w := by
  refine bodyPost_ret (v := .tuple #[.agg #[c0, c1], a.tmps.getD q undef]) ?_ hd hR
  simp only [results, h]
  have d0 : w.cell? ⟨g, 0, none⟩ = some c0 := by rw [hB.cell]; rfl
  have d1 : w.cell? ⟨g, 1, none⟩ = some c1 := by rw [hB.cell]; rfl
  have ht' : a.tmps[p]?.getD undef = .pointer (some ⟨g, 0, none⟩) := by simpa using ht
  simp [ht', go_sem, d0, d1, Result.andThen]
theorem inst_ret2 {fn : Func} {p q : Tmp} (h : fn.results = #[.cell p 77, .tmp q]) {R : Ending → World → Prop} {a : Act} {w : World} {g : Nat} {c0 c1 c2 c3 c4 c5 c6 : Value} (ht : a.tmps.getD p undef = .pointer (some ⟨g, 0, none⟩))
    (hB : Blk w g 77 #[c0, c1, c2, c3, c4, c5, c6]) (hd : a.defers = []) (hR : R (.returned (.tuple #[.agg #[c0, c1, c2, c3, c4, c5, c6], a.tmps.getD q undef])) w) : bodyPost Try.prog fn R .ret a w := by
  refine bodyPost_ret (v := .tuple #[.agg #[c0, c1, c2, c3, c4, c5, c6], a.tmps.getD q undef]) ?_ hd hR
  simp only [results, h]
  obtain ⟨d0, d1, d2, d3, d4, d5, d6⟩ := inst_blk hB
  have ht' : a.tmps[p]?.getD undef = .pointer (some ⟨g, 0, none⟩) := by simpa using ht
  simp [ht', go_sem, d0, d1, d2, d3, d4, d5, d6, Result.andThen]

set_option maxRecDepth 100000 in
set_option maxHeartbeats 1000000 in
theorem refVal_any (w : World) (A : Option Addr) (n c : Nat) (l : List StmC) (nm : ByteArray) (num : Int) (hn : n = l.length) (hl : l.length ≤ 1000000) (h : Rd w w.heap.size A (cellsOf l)) :
    Calls Try.prog 78 #[.slice A n c, .agg #[.string nm, .int .i64 num]] w fun e w' => e = .returned (.tuple #[.agg #[.int .i64 (Nm.valV (stms l) nm num).1, .int .i64 (Nm.valV (stms l) nm num).2], .int .i64 (Nm.valE (stms l) nm)]) ∧ Chg (fun _ => False) w w' := by
  subst hn
  have H := Lib.hid h
  clear h
  rcases byte_dec nm with ⟨rfl, k1, k2⟩ | ⟨hne, k1, k2⟩
  · have hv : Hid (Nm.valV (stms l) ⟨#[]⟩ num = (-1, num)) := by show Nm.valV (stms l) ⟨#[]⟩ num = (-1, num); unfold Nm.valV; rw [if_pos rfl]
    have hE : Hid (Nm.valE (stms l) ⟨#[]⟩ = 0) := by show Nm.valE (stms l) ⟨#[]⟩ = 0; unfold Nm.valE; rw [if_pos rfl]
    go_enter Try.func78, Try.ntmps78
    go_wp2
    refine val_ret2 rfl rfl (blk_new2 _ _ _ _) rfl ⟨by rw [hv.out, hE.out]; rfl, ?_⟩
    exact ((Chg.refl _ w).alloc _).alloc _
  · have hv : Hid (Nm.valV (stms l) nm num = ((Nm.need (stms l) nm 1).1, 0)) := by show Nm.valV (stms l) nm num = _; unfold Nm.valV; rw [if_neg hne]
    have hE : Hid (Nm.valE (stms l) nm = (Nm.need (stms l) nm 1).2) := by show Nm.valE (stms l) nm = _; unfold Nm.valE; rw [if_neg hne]
    clear hne
    go_enter Try.func78, Try.ntmps78
    go_wp2_with fail
    have hX := blk_new2 w (.cells #[.string nm, .int .i64 num] 68) 75 #[.int .i64 0, .int .i64 0]
    have hC0 : Chg (fun _ => False) w ((w.alloc (.cells #[.string nm, .int .i64 num] 68)).alloc (.cells #[.int .i64 0, .int .i64 0] 75)) := ((Chg.refl _ w).alloc _).alloc _
    obtain ⟨w1, hw1⟩ : ∃ w1, w1 = (w.alloc (.cells #[.string nm, .int .i64 num] 68)).alloc (.cells #[.int .i64 0, .int .i64 0] 75) := ⟨_, rfl⟩
    rw [← hw1] at hX hC0 ⊢
    have HX := Lib.hid hX
    have HC0 := Lib.hid hC0
    clear hw1 hX hC0
    refine (refNeed_any w1 A l.length c l nm 1 rfl hl ((H.out.chg HC0.out (Nat.le_refl _) (fun _ h => h.elim)).more HC0.out.size)).mono ?_
    rintro e w2 ⟨rfl, hC⟩
    have HX2 := Lib.hid (HX.out.chg hC (fun h => h))
    have d0 : w2.cell? ⟨w.heap.size + 1, 0, none⟩ = some (.int .i64 0) := by rw [HX2.out.cell]; rfl
    have d1 : w2.cell? ⟨w.heap.size + 1, 1, none⟩ = some (.int .i64 0) := by rw [HX2.out.cell]; rfl
    have f0 : w2.frozen? ⟨w.heap.size + 1, 0, none⟩ = false := HX2.out.frozen 0
    have f1 : w2.frozen? ⟨w.heap.size + 1, 1, none⟩ = false := HX2.out.frozen 1
    have hwlt := HX2.out.lt
    have HC := Lib.hid (Chg.trans HC0.out hC (fun _ _ h => h))
    clear hC
    simp only [needV]
    go_wp2
    refine val_ret2 (c0 := .int .i64 (Nm.need (stms l) nm 1).1) (c1 := .int .i64 0) rfl rfl (g := w.heap.size + 1) ?_ rfl ⟨by rw [hv.out, hE.out]; rfl, ?_⟩
    · have := (HX2.out.set 0 (.int .i64 (Nm.need (stms l) nm 1).1)).set 1 (.int .i64 0)
      exact this
    · exact Chg.setCell (p := ⟨w.heap.size + 1, 1, none⟩) (Chg.setCell (p := ⟨w.heap.size + 1, 0, none⟩) HC.out (.inr (by simp)) _) (.inr (by simp)) _

/-- In the middle of the reference's Inst: the item's variable, the result's, the one that is made. -/
structure MidR (w : World) (x : Nm.Item) (g0 g1 g2 : Nat) (wk : World) (o : Array Value) : Prop where
  item : Blk wk g0 70 (itemA x)
  res : Blk wk g1 77 #[.int .i64 0, .int .i64 0, .int .i64 0, .int .i64 0, .int .i64 0, .int .i64 0, .int .i64 0]
  out : Blk wk g2 77 o
  chg : Chg (fun _ => False) w wk
  h1 : w.heap.size ≤ g1
  h2 : w.heap.size ≤ g2
  h12 : g1 ≠ g2
theorem MidR.call {w wk wk' : World} {x : Nm.Item} {g0 g1 g2 : Nat} {o : Array Value} (h : MidR w x g0 g1 g2 wk o) (hc : Chg (fun _ => False) wk wk') : MidR w x g0 g1 g2 wk' o :=
  ⟨h.item.chg hc (fun h => h), h.res.chg hc (fun h => h), h.out.chg hc (fun h => h), Chg.trans h.chg hc (fun _ _ h => h), h.h1, h.h2, h.h12⟩
theorem MidR.set {w wk : World} {x : Nm.Item} {g0 g1 g2 : Nat} {o : Array Value} (h : MidR w x g0 g1 g2 wk o) (i : Nat) (u : Value) : MidR w x g0 g1 g2 (wk.setCell ⟨g2, i, none⟩ u) (o.setIfInBounds i u) :=
  ⟨h.item.far (p := ⟨g2, i, none⟩) (Blk.ne_ h.item h.out (by decide)) u, h.res.far (p := ⟨g2, i, none⟩) h.h12 u, h.out.set i u, h.chg.setCell (p := ⟨g2, i, none⟩) (.inr h.h2) u, h.h1, h.h2, h.h12⟩
theorem MidR.done {w wk : World} {x : Nm.Item} {g0 g1 g2 : Nat} {o : Array Value} (h : MidR w x g0 g1 g2 wk o) (c0 c1 c2 c3 c4 c5 c6 : Value) :
    Chg (fun _ => False) w (set7 wk g1 c0 c1 c2 c3 c4 c5 c6) ∧ Blk (set7 wk g1 c0 c1 c2 c3 c4 c5 c6) g1 77 #[c0, c1, c2, c3, c4, c5, c6] :=
  ⟨set7_chg _ _ _ _ _ _ _ h.chg h.h1, set7_blk _ _ _ _ _ _ _ h.res⟩

set_option maxRecDepth 100000 in
set_option maxHeartbeats 4000000 in
theorem refInst_any (w : World) (A : Option Addr) (n c : Nat) (l : List StmC) (x : Nm.Item) (hn : n = l.length) (hl : l.length ≤ 1000000) (h : Rd w w.heap.size A (cellsOf l)) :
    Calls Try.prog 58 #[.slice A n c, .agg (itemA x)] w fun e w' => ∃ y : Nm.Inst, e = .returned (.tuple #[.agg (instA y), .int .i64 (Nm.instE (stms l) x)]) ∧ (Nm.instE (stms l) x = 0 → y = Nm.instV (stms l) x) ∧ Chg (fun _ => False) w w' := by
  subst hn
  obtain ⟨op, ln, lnum, rn, rnum, name, user, line, col⟩ := x
  have H := Lib.hid h
  clear h
  unfold itemA
  dsimp only
  go_enter Try.func58, Try.ntmps58
  obtain ⟨W1, hW1⟩ : ∃ w1, w1 = ((w.alloc (.cells #[.int .i64 op, .string ln, .int .i64 lnum, .string rn, .int .i64 rnum, .string name, .string user, .int .i64 line, .int .i64 col] 70)).alloc (.cells #[.int .i64 0, .int .i64 0, .int .i64 0, .int .i64 0, .int .i64 0, .int .i64 0, .int .i64 0] 77)).alloc (.cells #[.int .i64 op, .int .i64 0, .int .i64 0, .int .i64 0, .int .i64 0, .int .i64 0, .int .i64 0] 77) := ⟨_, rfl⟩
  have X1 : Hid (Blk W1 w.heap.size 70 #[.int .i64 op, .string ln, .int .i64 lnum, .string rn, .int .i64 rnum, .string name, .string user, .int .i64 line, .int .i64 col]) := by show Blk _ _ _ _; rw [hW1]; exact ((Blk.new _ _ _).alloc _).alloc _
  have R1 : Hid (Blk W1 (w.heap.size + 1) 77 #[.int .i64 0, .int .i64 0, .int .i64 0, .int .i64 0, .int .i64 0, .int .i64 0, .int .i64 0]) := by show Blk _ _ _ _; rw [hW1]; exact (blk_new2 _ _ _ _).alloc _
  have O1 : Hid (Blk W1 (w.heap.size + 1 + 1) 77 #[.int .i64 op, .int .i64 0, .int .i64 0, .int .i64 0, .int .i64 0, .int .i64 0, .int .i64 0]) := by
    show Blk _ _ _ _; rw [hW1]
    have h := blk_new2 (w.alloc (.cells #[.int .i64 op, .string ln, .int .i64 lnum, .string rn, .int .i64 rnum, .string name, .string user, .int .i64 line, .int .i64 col] 70)) (.cells #[.int .i64 0, .int .i64 0, .int .i64 0, .int .i64 0, .int .i64 0, .int .i64 0, .int .i64 0] 77) 77 #[.int .i64 op, .int .i64 0, .int .i64 0, .int .i64 0, .int .i64 0, .int .i64 0, .int .i64 0]
    rw [show (w.alloc (.cells #[.int .i64 op, .string ln, .int .i64 lnum, .string rn, .int .i64 rnum, .string name, .string user, .int .i64 line, .int .i64 col] 70)).heap.size = w.heap.size + 1 from by simp] at h
    exact h
  have C1 : Hid (Chg (fun _ => False) w W1) := by show Chg _ _ _; rw [hW1]; exact (((Chg.refl _ w).alloc _).alloc _).alloc _
  have HW1 := Lib.hid hW1
  clear hW1
  obtain ⟨g0, hg0⟩ : ∃ g, g = w.heap.size := ⟨_, rfl⟩
  obtain ⟨g1, hg1⟩ : ∃ g, g = w.heap.size + 1 := ⟨_, rfl⟩
  obtain ⟨g2, hg2⟩ : ∃ g, g = w.heap.size + 1 + 1 := ⟨_, rfl⟩
  have G0 := Lib.hid hg0
  have G1 := Lib.hid hg1
  have G2 := Lib.hid hg2
  rw [← hg2] at O1
  rw [← hg1] at R1
  rw [← hg0] at X1
  have M1 : Hid (MidR w ⟨op, ln, lnum, rn, rnum, name, user, line, col⟩ g0 g1 g2 W1 #[.int .i64 op, .int .i64 0, .int .i64 0, .int .i64 0, .int .i64 0, .int .i64 0, .int .i64 0]) :=
    ⟨X1.out, R1.out, O1.out, C1.out, by omega, by omega, by omega⟩
  clear hg0 hg1 hg2 X1 R1 O1 C1
  by_cases h3 : 3 ≤ op
  · by_cases h8 : op ≤ 8
    · have HV : Hid (Nm.instV (stms l) ⟨op, ln, lnum, rn, rnum, name, user, line, col⟩ = ⟨op, (Nm.valV (stms l) ln lnum).1, (Nm.valV (stms l) ln lnum).2, (Nm.valV (stms l) rn rnum).1, (Nm.valV (stms l) rn rnum).2, 0, 0⟩) := by show _ = _; unfold Nm.instV; rw [if_pos ⟨h3, h8⟩]
      have HE : Hid (Nm.instE (stms l) ⟨op, ln, lnum, rn, rnum, name, user, line, col⟩ = Nm.first (Nm.valE (stms l) ln) (Nm.valE (stms l) rn)) := by show _ = _; unfold Nm.instE; rw [if_pos ⟨h3, h8⟩]
      have d3 : decide (3 ≤ op) = true := by simpa using h3
      have d8 : decide (op ≤ 8) = true := by simpa using h8
      go_wp2_with fail
      rw [← HW1.out, ← G2.out, ← G1.out, ← G0.out]
      clear HW1 G0 G1 G2
      refine (refVal_any W1 A l.length c l ln lnum rfl hl ((H.out.chg M1.out.chg (Nat.le_refl _) (fun _ h => h.elim)).more M1.out.chg.size)).mono ?_
      rintro e w2 ⟨rfl, hc⟩
      have M2 := Lib.hid (M1.out.call hc)
      obtain ⟨va, vb, U1⟩ : ∃ va vb, Nm.valV (stms l) ln lnum = (va, vb) := ⟨_, _, rfl⟩
      obtain ⟨ve, U2⟩ : ∃ ve, Nm.valE (stms l) ln = ve := ⟨_, rfl⟩
      rw [U1, U2]
      have U3 := Lib.hid U1
      have U4 := Lib.hid U2
      clear U1 U2
      clear hc M1
      have M3 : Hid (MidR w ⟨op, ln, lnum, rn, rnum, name, user, line, col⟩ g0 g1 g2 (w2.alloc (.cells #[.int .i64 va, .int .i64 vb] 75)) #[.int .i64 op, .int .i64 0, .int .i64 0, .int .i64 0, .int .i64 0, .int .i64 0, .int .i64 0]) := M2.out.call ((Chg.refl _ w2).alloc _)
      have A3 := Lib.hid (Blk.new w2 75 #[.int .i64 va, .int .i64 vb])
      clear M2
      obtain ⟨c0, c1, c2, c3, c4, c5, c6, c7, c8⟩ := item_blk M3.out.item
      obtain ⟨o0, o1, o2, o3, o4, o5, o6⟩ := inst_blk M3.out.out
      obtain ⟨r0, r1, r2, r3, r4, r5, r6⟩ := inst_blk M3.out.res
      obtain ⟨f0, f1, f2, f3, f4, f5, f6⟩ := inst_free M3.out.out
      obtain ⟨y0, y1, y2, y3, y4, y5, y6⟩ := inst_free M3.out.res
      have hlt2 := M3.out.out.lt
      have hlt3 := M3.out.res.lt
      have hne := M3.out.h12
      by_cases hve : ve = 0
      · subst hve
        have HE2 : Hid (Nm.first (Nm.valE (stms l) ln) (Nm.valE (stms l) rn) = Nm.valE (stms l) rn) := by show _ = _; rw [U4.out, first0]
        go_wp2_with fail
        obtain ⟨w3, hw3⟩ : ∃ w3, w3 = w2.alloc (.cells #[.int .i64 va, .int .i64 vb] 75) := ⟨_, rfl⟩
        obtain ⟨ga, hga⟩ : ∃ g, g = w2.heap.size := ⟨_, rfl⟩
        rw [← hw3] at M3 A3 ⊢
        rw [← hga] at A3 ⊢
        clear hw3 hga c0 c1 c2 c3 c4 c5 c6 c7 c8 o0 o1 o2 o3 o4 o5 o6 f0 f1 f2 f3 f4 f5 f6 r0 r1 r2 r3 r4 r5 r6 y0 y1 y2 y3 y4 y5 y6 hlt2 hlt3 hne
        refine (refVal_any w3 A l.length c l rn rnum rfl hl ((H.out.chg M3.out.chg (Nat.le_refl _) (fun _ h => h.elim)).more M3.out.chg.size)).mono ?_
        rintro e w4 ⟨rfl, hc⟩
        have M4 := Lib.hid (M3.out.call hc)
        obtain ⟨vc, vd, T1⟩ : ∃ va vb, Nm.valV (stms l) rn rnum = (va, vb) := ⟨_, _, rfl⟩
        obtain ⟨vf, T2⟩ : ∃ ve, Nm.valE (stms l) rn = ve := ⟨_, rfl⟩
        rw [T1, T2]
        have T3 := Lib.hid T1
        have T4 := Lib.hid T2
        clear T1 T2
        have A4 := A3.out.chg hc (fun h => h)
        have A5 := A4.alloc (.cells #[.int .i64 vc, .int .i64 vd] 75)
        have a0 : (w4.alloc (.cells #[.int .i64 vc, .int .i64 vd] 75)).cell? ⟨ga, 0, none⟩ = some (.int .i64 va) := by rw [A5.cell]; rfl
        have a1 : (w4.alloc (.cells #[.int .i64 vc, .int .i64 vd] 75)).cell? ⟨ga, 1, none⟩ = some (.int .i64 vb) := by rw [A5.cell]; rfl
        have galt := A4.lt
        have M5 : Hid (MidR w ⟨op, ln, lnum, rn, rnum, name, user, line, col⟩ g0 g1 g2 (w4.alloc (.cells #[.int .i64 vc, .int .i64 vd] 75)) #[.int .i64 op, .int .i64 0, .int .i64 0, .int .i64 0, .int .i64 0, .int .i64 0, .int .i64 0]) := M4.out.call ((Chg.refl _ w4).alloc _)
        have B5 := Blk.new w4 75 #[.int .i64 vc, .int .i64 vd]
        have b0 : (w4.alloc (.cells #[.int .i64 vc, .int .i64 vd] 75)).cell? ⟨w4.heap.size, 0, none⟩ = some (.int .i64 vc) := by rw [B5.cell]; rfl
        have b1 : (w4.alloc (.cells #[.int .i64 vc, .int .i64 vd] 75)).cell? ⟨w4.heap.size, 1, none⟩ = some (.int .i64 vd) := by rw [B5.cell]; rfl
        have n1 : g2 ≠ ga := Blk.ne_ M5.out.out A5 (by decide)
        have n2 : g2 ≠ w4.heap.size := Blk.ne_ M5.out.out B5 (by decide)
        have n3 : g1 ≠ ga := Blk.ne_ M5.out.res A5 (by decide)
        have n4 : g1 ≠ w4.heap.size := Blk.ne_ M5.out.res B5 (by decide)
        clear hc M3 M4 A3 A4 A5 B5
        obtain ⟨o0, o1, o2, o3, o4, o5, o6⟩ := inst_blk M5.out.out
        obtain ⟨r0, r1, r2, r3, r4, r5, r6⟩ := inst_blk M5.out.res
        obtain ⟨f0, f1, f2, f3, f4, f5, f6⟩ := inst_free M5.out.out
        obtain ⟨y0, y1, y2, y3, y4, y5, y6⟩ := inst_free M5.out.res
        have hlt2 := M5.out.out.lt
        have hlt3 := M5.out.res.lt
        have hne := M5.out.h12
        go_wp2
        have M6 : MidR w ⟨op, ln, lnum, rn, rnum, name, user, line, col⟩ g0 g1 g2 (((((w4.alloc (.cells #[.int .i64 vc, .int .i64 vd] 75)).setCell ⟨g2, 1, none⟩ (.int .i64 va)).setCell ⟨g2, 2, none⟩ (.int .i64 vb)).setCell ⟨g2, 3, none⟩ (.int .i64 vc)).setCell ⟨g2, 4, none⟩ (.int .i64 vd)) #[.int .i64 op, .int .i64 va, .int .i64 vb, .int .i64 vc, .int .i64 vd, .int .i64 0, .int .i64 0] := (((M5.out.set 1 (.int .i64 va)).set 2 (.int .i64 vb)).set 3 (.int .i64 vc)).set 4 (.int .i64 vd)
        obtain ⟨dB, dR⟩ := M6.done (.int .i64 op) (.int .i64 va) (.int .i64 vb) (.int .i64 vc) (.int .i64 vd) (.int .i64 0) (.int .i64 0)
        exact inst_ret2 rfl rfl dR rfl ⟨⟨op, va, vb, vc, vd, 0, 0⟩, by rw [HE.out, HE2.out, T4.out]; rfl, fun _ => by rw [HV.out, U3.out, T3.out], dB⟩
      · have hkz : (ve != 0) = true := by simpa using hve
        have HE2 : Hid (Nm.first (Nm.valE (stms l) ln) (Nm.valE (stms l) rn) = ve) := by show _ = _; rw [U4.out]; unfold Nm.first; rw [if_neg hve]
        have hve := Lib.hid hve
        go_wp2
        obtain ⟨dB, dR⟩ := M3.out.done (.int .i64 op) (.int .i64 0) (.int .i64 0) (.int .i64 0) (.int .i64 0) (.int .i64 0) (.int .i64 0)
        exact inst_ret2 rfl rfl dR rfl ⟨⟨op, 0, 0, 0, 0, 0, 0⟩, by rw [HE.out, HE2.out]; rfl, fun h => absurd (by rw [← h, HE.out, HE2.out]) hve.out, dB⟩
    · by_cases h9 : op = 9
      · subst h9
        have HV : Hid (Nm.instV (stms l) ⟨9, ln, lnum, rn, rnum, name, user, line, col⟩ = ⟨9, 0, 0, 0, 0, (Nm.need (stms l) name 4).1, 0⟩) := rfl
        have HE : Hid (Nm.instE (stms l) ⟨9, ln, lnum, rn, rnum, name, user, line, col⟩ = (Nm.need (stms l) name 4).2) := rfl
        clear h3 h8
        have GS : Hid (W1.heap.size = w.heap.size + 1 + 1 + 1) := by show _ = _; rw [HW1.out]; simp
        go_wp2_with fail
        rw [← HW1.out, ← GS.out, ← G2.out, ← G1.out, ← G0.out]
        clear HW1 G0 G1 G2 GS
        have K5 := Lib.hid (Blk.new W1 3 #[.int .i64 4, .int .i64 7, .int .i64 5, .int .i64 5])
        have M5 := Lib.hid (M1.out.call ((Chg.refl _ W1).alloc (.cells #[.int .i64 4, .int .i64 7, .int .i64 5, .int .i64 5] 3)))
        obtain ⟨gk, hgk⟩ : ∃ g, g = W1.heap.size := ⟨_, rfl⟩
        obtain ⟨w5, hw5⟩ : ∃ w5, w5 = W1.alloc (.cells #[.int .i64 4, .int .i64 7, .int .i64 5, .int .i64 5] 3) := ⟨_, rfl⟩
        rw [← hw5] at K5 M5 ⊢
        rw [← hgk] at K5 ⊢
        clear hw5 hgk M1
        obtain ⟨c0, c1, c2, c3, c4, c5, c6, c7, c8⟩ := item_blk M5.out.item
        have k0 : w5.cell? ⟨gk, 0, none⟩ = some (.int .i64 4) := by rw [K5.out.cell]; rfl
        have k1 : w5.cell? ⟨gk, 1, none⟩ = some (.int .i64 7) := by rw [K5.out.cell]; rfl
        have k2 : w5.cell? ⟨gk, 2, none⟩ = some (.int .i64 5) := by rw [K5.out.cell]; rfl
        have k3 : w5.cell? ⟨gk, 3, none⟩ = some (.int .i64 5) := by rw [K5.out.cell]; rfl
        obtain ⟨p, q, hpq⟩ : ∃ p q, Nm.need (stms l) name 4 = (p, q) := ⟨_, _, rfl⟩
        have PQ := Lib.hid hpq
        clear hpq K5
        go_cut [13, 14] (fun s t w6 => s = .int .i64 p ∧ t = .int .i64 q ∧ Hid (Chg (fun _ => False) w5 w6))
        case first =>
          go_region_with ((go_at_call 25; refine (refNeed_any _ A l.length c l name 4 rfl hl (by exact ((H.out.chg M5.out.chg (Nat.le_refl _) (fun _ h => h.elim)).more M5.out.chg.size))).mono ?_; rintro e w6 ⟨rfl, hc⟩; rw [PQ.out]; simp only [needV]))
          all_goals (go_wp2_with fail; go_meet; exact ⟨rfl, rfl, Chg.trans ((Chg.refl _ w5).drew) hc (fun _ _ h => h)⟩)
        case rest =>
          obtain ⟨rfl, rfl, hc⟩ := hcut
          have M6 := Lib.hid (M5.out.call hc.out)
          clear hc M5 c0 c1 c2 c3 c4 c5 c6 c7 c8 k0 k1 k2 k3
          obtain ⟨o0, o1, o2, o3, o4, o5, o6⟩ := inst_blk M6.out.out
          obtain ⟨r0, r1, r2, r3, r4, r5, r6⟩ := inst_blk M6.out.res
          obtain ⟨f0, f1, f2, f3, f4, f5, f6⟩ := inst_free M6.out.out
          obtain ⟨y0, y1, y2, y3, y4, y5, y6⟩ := inst_free M6.out.res
          have hlt2 := M6.out.out.lt
          have hlt3 := M6.out.res.lt
          have hne := M6.out.h12
          go_wp2
          have M7 := M6.out.set 5 (.int .i64 p)
          obtain ⟨dB, dR⟩ := M7.done (.int .i64 9) (.int .i64 0) (.int .i64 0) (.int .i64 0) (.int .i64 0) (.int .i64 p) (.int .i64 0)
          exact inst_ret2 rfl rfl dR rfl ⟨⟨9, 0, 0, 0, 0, p, 0⟩, by rw [HE.out, PQ.out]; rfl, fun _ => by rw [HV.out, PQ.out], dB⟩
      by_cases h10 : op = 10
      · subst h10
        have HV : Hid (Nm.instV (stms l) ⟨10, ln, lnum, rn, rnum, name, user, line, col⟩ = ⟨10, 0, 0, 0, 0, (Nm.need (stms l) name 7).1, 0⟩) := rfl
        have HE : Hid (Nm.instE (stms l) ⟨10, ln, lnum, rn, rnum, name, user, line, col⟩ = (Nm.need (stms l) name 7).2) := rfl
        clear h3 h8
        have GS : Hid (W1.heap.size = w.heap.size + 1 + 1 + 1) := by show _ = _; rw [HW1.out]; simp
        go_wp2_with fail
        rw [← HW1.out, ← GS.out, ← G2.out, ← G1.out, ← G0.out]
        clear HW1 G0 G1 G2 GS
        have K5 := Lib.hid (Blk.new W1 3 #[.int .i64 4, .int .i64 7, .int .i64 5, .int .i64 5])
        have M5 := Lib.hid (M1.out.call ((Chg.refl _ W1).alloc (.cells #[.int .i64 4, .int .i64 7, .int .i64 5, .int .i64 5] 3)))
        obtain ⟨gk, hgk⟩ : ∃ g, g = W1.heap.size := ⟨_, rfl⟩
        obtain ⟨w5, hw5⟩ : ∃ w5, w5 = W1.alloc (.cells #[.int .i64 4, .int .i64 7, .int .i64 5, .int .i64 5] 3) := ⟨_, rfl⟩
        rw [← hw5] at K5 M5 ⊢
        rw [← hgk] at K5 ⊢
        clear hw5 hgk M1
        obtain ⟨c0, c1, c2, c3, c4, c5, c6, c7, c8⟩ := item_blk M5.out.item
        have k0 : w5.cell? ⟨gk, 0, none⟩ = some (.int .i64 4) := by rw [K5.out.cell]; rfl
        have k1 : w5.cell? ⟨gk, 1, none⟩ = some (.int .i64 7) := by rw [K5.out.cell]; rfl
        have k2 : w5.cell? ⟨gk, 2, none⟩ = some (.int .i64 5) := by rw [K5.out.cell]; rfl
        have k3 : w5.cell? ⟨gk, 3, none⟩ = some (.int .i64 5) := by rw [K5.out.cell]; rfl
        obtain ⟨p, q, hpq⟩ : ∃ p q, Nm.need (stms l) name 7 = (p, q) := ⟨_, _, rfl⟩
        have PQ := Lib.hid hpq
        clear hpq K5
        go_cut [13, 14] (fun s t w6 => s = .int .i64 p ∧ t = .int .i64 q ∧ Hid (Chg (fun _ => False) w5 w6))
        case first =>
          go_region_with ((go_at_call 25; refine (refNeed_any _ A l.length c l name 7 rfl hl (by exact ((H.out.chg M5.out.chg (Nat.le_refl _) (fun _ h => h.elim)).more M5.out.chg.size))).mono ?_; rintro e w6 ⟨rfl, hc⟩; rw [PQ.out]; simp only [needV]))
          all_goals (go_wp2_with fail; go_meet; exact ⟨rfl, rfl, Chg.trans ((Chg.refl _ w5).drew) hc (fun _ _ h => h)⟩)
        case rest =>
          obtain ⟨rfl, rfl, hc⟩ := hcut
          have M6 := Lib.hid (M5.out.call hc.out)
          clear hc M5 c0 c1 c2 c3 c4 c5 c6 c7 c8 k0 k1 k2 k3
          obtain ⟨o0, o1, o2, o3, o4, o5, o6⟩ := inst_blk M6.out.out
          obtain ⟨r0, r1, r2, r3, r4, r5, r6⟩ := inst_blk M6.out.res
          obtain ⟨f0, f1, f2, f3, f4, f5, f6⟩ := inst_free M6.out.out
          obtain ⟨y0, y1, y2, y3, y4, y5, y6⟩ := inst_free M6.out.res
          have hlt2 := M6.out.out.lt
          have hlt3 := M6.out.res.lt
          have hne := M6.out.h12
          go_wp2
          have M7 := M6.out.set 5 (.int .i64 p)
          obtain ⟨dB, dR⟩ := M7.done (.int .i64 10) (.int .i64 0) (.int .i64 0) (.int .i64 0) (.int .i64 0) (.int .i64 p) (.int .i64 0)
          exact inst_ret2 rfl rfl dR rfl ⟨⟨10, 0, 0, 0, 0, p, 0⟩, by rw [HE.out, PQ.out]; rfl, fun _ => by rw [HV.out, PQ.out], dB⟩
      by_cases h11 : op = 11
      · subst h11
        have HV : Hid (Nm.instV (stms l) ⟨11, ln, lnum, rn, rnum, name, user, line, col⟩ = ⟨11, 0, 0, 0, 0, (Nm.need (stms l) name 5).1, 0⟩) := rfl
        have HE : Hid (Nm.instE (stms l) ⟨11, ln, lnum, rn, rnum, name, user, line, col⟩ = (Nm.need (stms l) name 5).2) := rfl
        clear h3 h8
        have GS : Hid (W1.heap.size = w.heap.size + 1 + 1 + 1) := by show _ = _; rw [HW1.out]; simp
        go_wp2_with fail
        rw [← HW1.out, ← GS.out, ← G2.out, ← G1.out, ← G0.out]
        clear HW1 G0 G1 G2 GS
        have K5 := Lib.hid (Blk.new W1 3 #[.int .i64 4, .int .i64 7, .int .i64 5, .int .i64 5])
        have M5 := Lib.hid (M1.out.call ((Chg.refl _ W1).alloc (.cells #[.int .i64 4, .int .i64 7, .int .i64 5, .int .i64 5] 3)))
        obtain ⟨gk, hgk⟩ : ∃ g, g = W1.heap.size := ⟨_, rfl⟩
        obtain ⟨w5, hw5⟩ : ∃ w5, w5 = W1.alloc (.cells #[.int .i64 4, .int .i64 7, .int .i64 5, .int .i64 5] 3) := ⟨_, rfl⟩
        rw [← hw5] at K5 M5 ⊢
        rw [← hgk] at K5 ⊢
        clear hw5 hgk M1
        obtain ⟨c0, c1, c2, c3, c4, c5, c6, c7, c8⟩ := item_blk M5.out.item
        have k0 : w5.cell? ⟨gk, 0, none⟩ = some (.int .i64 4) := by rw [K5.out.cell]; rfl
        have k1 : w5.cell? ⟨gk, 1, none⟩ = some (.int .i64 7) := by rw [K5.out.cell]; rfl
        have k2 : w5.cell? ⟨gk, 2, none⟩ = some (.int .i64 5) := by rw [K5.out.cell]; rfl
        have k3 : w5.cell? ⟨gk, 3, none⟩ = some (.int .i64 5) := by rw [K5.out.cell]; rfl
        obtain ⟨p, q, hpq⟩ : ∃ p q, Nm.need (stms l) name 5 = (p, q) := ⟨_, _, rfl⟩
        have PQ := Lib.hid hpq
        clear hpq K5
        go_cut [13, 14] (fun s t w6 => s = .int .i64 p ∧ t = .int .i64 q ∧ Hid (Chg (fun _ => False) w5 w6))
        case first =>
          go_region_with ((go_at_call 25; refine (refNeed_any _ A l.length c l name 5 rfl hl (by exact ((H.out.chg M5.out.chg (Nat.le_refl _) (fun _ h => h.elim)).more M5.out.chg.size))).mono ?_; rintro e w6 ⟨rfl, hc⟩; rw [PQ.out]; simp only [needV]))
          all_goals (go_wp2_with fail; go_meet; exact ⟨rfl, rfl, Chg.trans ((Chg.refl _ w5).drew) hc (fun _ _ h => h)⟩)
        case rest =>
          obtain ⟨rfl, rfl, hc⟩ := hcut
          have M6 := Lib.hid (M5.out.call hc.out)
          clear hc M5 c0 c1 c2 c3 c4 c5 c6 c7 c8 k0 k1 k2 k3
          obtain ⟨o0, o1, o2, o3, o4, o5, o6⟩ := inst_blk M6.out.out
          obtain ⟨r0, r1, r2, r3, r4, r5, r6⟩ := inst_blk M6.out.res
          obtain ⟨f0, f1, f2, f3, f4, f5, f6⟩ := inst_free M6.out.out
          obtain ⟨y0, y1, y2, y3, y4, y5, y6⟩ := inst_free M6.out.res
          have hlt2 := M6.out.out.lt
          have hlt3 := M6.out.res.lt
          have hne := M6.out.h12
          go_wp2
          have M7 := M6.out.set 5 (.int .i64 p)
          obtain ⟨dB, dR⟩ := M7.done (.int .i64 11) (.int .i64 0) (.int .i64 0) (.int .i64 0) (.int .i64 0) (.int .i64 p) (.int .i64 0)
          exact inst_ret2 rfl rfl dR rfl ⟨⟨11, 0, 0, 0, 0, p, 0⟩, by rw [HE.out, PQ.out]; rfl, fun _ => by rw [HV.out, PQ.out], dB⟩
      by_cases h12 : op = 12
      · subst h12
        have HV : Hid (Nm.instV (stms l) ⟨12, ln, lnum, rn, rnum, name, user, line, col⟩ = ⟨12, 0, 0, 0, 0, (Nm.need (stms l) name 5).1, (Nm.need (stms l) user 2).1⟩) := rfl
        have HE : Hid (Nm.instE (stms l) ⟨12, ln, lnum, rn, rnum, name, user, line, col⟩ = Nm.first (Nm.need (stms l) user 2).2 (Nm.need (stms l) name 5).2) := rfl
        clear h3 h8
        go_wp2_with fail
        rw [← HW1.out, ← G2.out, ← G1.out, ← G0.out]
        clear HW1 G0 G1 G2
        refine (refNeed_any W1 A l.length c l user 2 rfl hl ((H.out.chg M1.out.chg (Nat.le_refl _) (fun _ h => h.elim)).more M1.out.chg.size)).mono ?_
        rintro e w2 ⟨rfl, hc⟩
        have M2 := Lib.hid (M1.out.call hc)
        obtain ⟨pu, qu, hpu⟩ : ∃ p q, Nm.need (stms l) user 2 = (p, q) := ⟨_, _, rfl⟩
        have PU := Lib.hid hpu
        rw [hpu]
        simp only [needV]
        clear hc M1 hpu
        obtain ⟨c0, c1, c2, c3, c4, c5, c6, c7, c8⟩ := item_blk M2.out.item
        obtain ⟨o0, o1, o2, o3, o4, o5, o6⟩ := inst_blk M2.out.out
        obtain ⟨r0, r1, r2, r3, r4, r5, r6⟩ := inst_blk M2.out.res
        obtain ⟨f0, f1, f2, f3, f4, f5, f6⟩ := inst_free M2.out.out
        obtain ⟨y0, y1, y2, y3, y4, y5, y6⟩ := inst_free M2.out.res
        have hlt2 := M2.out.out.lt
        have hlt3 := M2.out.res.lt
        have hne := M2.out.h12
        by_cases hqu : qu = 0
        · subst hqu
          go_wp2_with fail
          have M3 := Lib.hid (M2.out.set 6 (.int .i64 pu))
          have K5 := Lib.hid (Blk.new (w2.setCell ⟨g2, 6, none⟩ (.int .i64 pu)) 3 #[.int .i64 4, .int .i64 7, .int .i64 5, .int .i64 5])
          have M5 := Lib.hid (M3.out.call ((Chg.refl _ (w2.setCell ⟨g2, 6, none⟩ (.int .i64 pu))).alloc (.cells #[.int .i64 4, .int .i64 7, .int .i64 5, .int .i64 5] 3)))
          have GS : Hid (w2.heap.size = (w2.setCell ⟨g2, 6, none⟩ (.int .i64 pu)).heap.size) := by show _ = _; simp
          obtain ⟨w3, hw3⟩ : ∃ w3, w3 = w2.setCell ⟨g2, 6, none⟩ (.int .i64 pu) := ⟨_, rfl⟩
          rw [← hw3] at K5 M5 GS ⊢
          rw [GS.out]
          obtain ⟨gk, hgk⟩ : ∃ g, g = w3.heap.size := ⟨_, rfl⟩
          obtain ⟨w5, hw5⟩ : ∃ w5, w5 = w3.alloc (.cells #[.int .i64 4, .int .i64 7, .int .i64 5, .int .i64 5] 3) := ⟨_, rfl⟩
          rw [← hw5] at K5 M5 ⊢
          rw [← hgk] at K5 ⊢
          clear hw5 hgk hw3 M2 M3 GS c0 c1 c2 c3 c4 c5 c6 c7 c8 o0 o1 o2 o3 o4 o5 o6 f0 f1 f2 f3 f4 f5 f6 r0 r1 r2 r3 r4 r5 r6 y0 y1 y2 y3 y4 y5 y6 hlt2 hlt3 hne
          obtain ⟨c0, c1, c2, c3, c4, c5, c6, c7, c8⟩ := item_blk M5.out.item
          have k0 : w5.cell? ⟨gk, 0, none⟩ = some (.int .i64 4) := by rw [K5.out.cell]; rfl
          have k1 : w5.cell? ⟨gk, 1, none⟩ = some (.int .i64 7) := by rw [K5.out.cell]; rfl
          have k2 : w5.cell? ⟨gk, 2, none⟩ = some (.int .i64 5) := by rw [K5.out.cell]; rfl
          have k3 : w5.cell? ⟨gk, 3, none⟩ = some (.int .i64 5) := by rw [K5.out.cell]; rfl
          obtain ⟨p, q, hpq⟩ : ∃ p q, Nm.need (stms l) name 5 = (p, q) := ⟨_, _, rfl⟩
          have PQ := Lib.hid hpq
          clear hpq K5
          go_cut [13, 14] (fun s t w6 => s = .int .i64 p ∧ t = .int .i64 q ∧ Hid (Chg (fun _ => False) w5 w6))
          case first =>
            go_region_with ((go_at_call 25; refine (refNeed_any _ A l.length c l name 5 rfl hl (by exact ((H.out.chg M5.out.chg (Nat.le_refl _) (fun _ h => h.elim)).more M5.out.chg.size))).mono ?_; rintro e w6 ⟨rfl, hc⟩; rw [PQ.out]; simp only [needV]))
            all_goals (go_wp2_with fail; go_meet; exact ⟨rfl, rfl, Chg.trans ((Chg.refl _ w5).drew) hc (fun _ _ h => h)⟩)
          case rest =>
            obtain ⟨rfl, rfl, hc⟩ := hcut
            have M6 := Lib.hid (M5.out.call hc.out)
            clear hc M5 c0 c1 c2 c3 c4 c5 c6 c7 c8 k0 k1 k2 k3
            obtain ⟨o0, o1, o2, o3, o4, o5, o6⟩ := inst_blk M6.out.out
            obtain ⟨r0, r1, r2, r3, r4, r5, r6⟩ := inst_blk M6.out.res
            obtain ⟨f0, f1, f2, f3, f4, f5, f6⟩ := inst_free M6.out.out
            obtain ⟨y0, y1, y2, y3, y4, y5, y6⟩ := inst_free M6.out.res
            have hlt2 := M6.out.out.lt
            have hlt3 := M6.out.res.lt
            have hne := M6.out.h12
            go_wp2
            have M7 := M6.out.set 5 (.int .i64 p)
            obtain ⟨dB, dR⟩ := M7.done (.int .i64 12) (.int .i64 0) (.int .i64 0) (.int .i64 0) (.int .i64 0) (.int .i64 p) (.int .i64 pu)
            exact inst_ret2 rfl rfl dR rfl ⟨⟨12, 0, 0, 0, 0, p, pu⟩, by rw [HE.out, PQ.out, PU.out, first0]; rfl, fun _ => by rw [HV.out, PQ.out, PU.out], dB⟩
        · have hkz : (qu != 0) = true := by simpa using hqu
          have hqu := Lib.hid hqu
          have HF : Hid (Nm.first qu (Nm.need (stms l) name 5).2 = qu) := by show _ = _; unfold Nm.first; rw [if_neg hqu.out]
          go_wp2
          obtain ⟨dB, dR⟩ := M2.out.done (.int .i64 12) (.int .i64 0) (.int .i64 0) (.int .i64 0) (.int .i64 0) (.int .i64 0) (.int .i64 0)
          exact inst_ret2 rfl rfl dR rfl ⟨⟨12, 0, 0, 0, 0, 0, 0⟩, by rw [HE.out, PU.out, HF.out]; rfl, fun h => absurd (by rw [← h, HE.out, PU.out, HF.out]) hqu.out, dB⟩
      have d3 : decide (3 ≤ op) = true := by simpa using h3
      have d8 : decide (op ≤ 8) = false := by simpa using h8
      have HV : Hid (Nm.instV (stms l) ⟨op, ln, lnum, rn, rnum, name, user, line, col⟩ = ⟨op, 0, 0, 0, 0, 0, 0⟩) := by show _ = _; unfold Nm.instV; dsimp only; rw [if_neg (by omega), if_neg (by omega), if_neg (by omega), if_neg (by omega), if_neg (by omega)]
      have HE : Hid (Nm.instE (stms l) ⟨op, ln, lnum, rn, rnum, name, user, line, col⟩ = 0) := by show _ = _; unfold Nm.instE; dsimp only; rw [if_neg (by omega), if_neg (by omega), if_neg (by omega), if_neg (by omega), if_neg (by omega)]
      have k12 : (op == 12) = false := by rw [beq_eq_false_iff_ne]; omega
      have d9 : decide (9 ≤ op) = true := by simp; omega
      have d12 : decide (op ≤ 12) = false := by rw [decide_eq_false_iff_not]; omega
      go_wp2
      exact inst_ret2 rfl rfl (g := w.heap.size + 1) ((blk_new2 _ _ _ _).alloc _) rfl ⟨⟨op, 0, 0, 0, 0, 0, 0⟩, by rw [HE.out]; rfl, fun _ => by rw [HV.out], (((Chg.refl _ w).alloc _).alloc _).alloc _⟩
  · have HV : Hid (Nm.instV (stms l) ⟨op, ln, lnum, rn, rnum, name, user, line, col⟩ = ⟨op, 0, 0, 0, 0, 0, 0⟩) := by show _ = _; unfold Nm.instV; dsimp only; rw [if_neg (by omega), if_neg (by omega), if_neg (by omega), if_neg (by omega), if_neg (by omega)]
    have HE : Hid (Nm.instE (stms l) ⟨op, ln, lnum, rn, rnum, name, user, line, col⟩ = 0) := by show _ = _; unfold Nm.instE; dsimp only; rw [if_neg (by omega), if_neg (by omega), if_neg (by omega), if_neg (by omega), if_neg (by omega)]
    have k12 : (op == 12) = false := by rw [beq_eq_false_iff_ne]; omega
    have d3 : decide (3 ≤ op) = false := by simpa using h3
    have d9 : decide (9 ≤ op) = false := by rw [decide_eq_false_iff_not]; omega
    go_wp2
    exact inst_ret2 rfl rfl (g := w.heap.size + 1) ((blk_new2 _ _ _ _).alloc _) rfl ⟨⟨op, 0, 0, 0, 0, 0, 0⟩, by rw [HE.out]; rfl, fun _ => by rw [HV.out], (((Chg.refl _ w).alloc _).alloc _).alloc _⟩
end Go.Proofs.Ytpppgnphblbbcaa
