/- The walk of the binder's inst. -/
import Derived.Test.YtpppgnphblbbcaaBnInst
namespace Go.Proofs.Ytpppgnphblbbcaa
open Go.RowKit

def itemA (x : Nm.Item) : Array Value := #[.int .i64 x.op, .string x.ln, .int .i64 x.lnum, .string x.rn, .int .i64 x.rnum, .string x.name, .string x.user, .int .i64 x.line, .int .i64 x.col]
def instA (x : Nm.Inst) : Array Value := #[.int .i64 x.op, .int .i64 x.la, .int .i64 x.lnum, .int .i64 x.ra, .int .i64 x.rnum, .int .i64 x.n, .int .i64 x.user]

theorem compares_any (w : World) (op : Int) : Calls Try.prog 75 #[.int .i64 op] w fun e w' => e = .returned (.bool (decide (3 ≤ op ∧ op ≤ 8))) ∧ w = w' := by
  by_cases h1 : 3 ≤ op
  · by_cases h2 : op ≤ 8
    · have d1 : decide (3 ≤ op) = true := by simpa using h1
      have d2 : decide (op ≤ 8) = true := by simpa using h2
      go_enter Try.func75, Try.ntmps75
      go_wp2
      go_ret
      exact ⟨by simp [h1, h2], rfl⟩
    · have d1 : decide (3 ≤ op) = true := by simpa using h1
      have d2 : decide (op ≤ 8) = false := by simpa using h2
      go_enter Try.func75, Try.ntmps75
      go_wp2
      go_ret
      exact ⟨rfl, rfl⟩
  · have d1 : decide (3 ≤ op) = false := by simpa using h1
    go_enter Try.func75, Try.ntmps75
    go_wp2
    go_ret
    exact ⟨rfl, rfl⟩

theorem item_blk {w : World} {g : Nat} {c0 c1 c2 c3 c4 c5 c6 c7 c8 : Value} (h : Blk w g 70 #[c0, c1, c2, c3, c4, c5, c6, c7, c8]) :
    w.cell? ⟨g, 0, none⟩ = some c0 ∧ w.cell? ⟨g, 1, none⟩ = some c1 ∧ w.cell? ⟨g, 2, none⟩ = some c2 ∧ w.cell? ⟨g, 3, none⟩ = some c3 ∧ w.cell? ⟨g, 4, none⟩ = some c4 ∧ w.cell? ⟨g, 5, none⟩ = some c5 ∧ w.cell? ⟨g, 6, none⟩ = some c6 ∧ w.cell? ⟨g, 7, none⟩ = some c7 ∧ w.cell? ⟨g, 8, none⟩ = some c8 := by
  refine ⟨?_, ?_, ?_, ?_, ?_, ?_, ?_, ?_, ?_⟩ <;> rw [h.cell] <;> rfl
theorem inst_blk {w : World} {g : Nat} {c0 c1 c2 c3 c4 c5 c6 : Value} (h : Blk w g 77 #[c0, c1, c2, c3, c4, c5, c6]) :
    w.cell? ⟨g, 0, none⟩ = some c0 ∧ w.cell? ⟨g, 1, none⟩ = some c1 ∧ w.cell? ⟨g, 2, none⟩ = some c2 ∧ w.cell? ⟨g, 3, none⟩ = some c3 ∧ w.cell? ⟨g, 4, none⟩ = some c4 ∧ w.cell? ⟨g, 5, none⟩ = some c5 ∧ w.cell? ⟨g, 6, none⟩ = some c6 := by
  refine ⟨?_, ?_, ?_, ?_, ?_, ?_, ?_⟩ <;> rw [h.cell] <;> rfl
theorem inst_free {w : World} {g : Nat} {cs : Array Value} (h : Blk w g 77 cs) :
    w.frozen? ⟨g, 0, none⟩ = false ∧ w.frozen? ⟨g, 1, none⟩ = false ∧ w.frozen? ⟨g, 2, none⟩ = false ∧ w.frozen? ⟨g, 3, none⟩ = false ∧ w.frozen? ⟨g, 4, none⟩ = false ∧ w.frozen? ⟨g, 5, none⟩ = false ∧ w.frozen? ⟨g, 6, none⟩ = false :=
  ⟨h.frozen 0, h.frozen 1, h.frozen 2, h.frozen 3, h.frozen 4, h.frozen 5, h.frozen 6⟩
theorem TAt.ne_blk {w : World} {b mb : Nat} {nv : Nat → Value} {l : List Nm.Stm} (h : TAt w b mb nv l) {g : Nat} {t : TypeId} {cs : Array Value} (hB : Blk w g t cs) (h1 : t ≠ 102) (h2 : t ≠ 9) : ¬ TFoot b mb nv g := by
  rintro (e | e | ⟨j, hj, e⟩)
  · subst e
    obtain ⟨cs', hB', _⟩ := h.row
    exact Blk.ne_ hB hB' h1 rfl
  · subst e
    exact h.map.ne_blk hB rfl
  · exact own_blk_ne (h.own j hj) hB (Ne.symm h2) e
/-- In the middle of inst: the item's variable, the result's, the one that is made, the binder, the table. -/
structure Mid (w : World) (bb b mb : Nat) (nv : Nat → Value) (l : List Nm.Stm) (x : Nm.Item) (g0 g1 g2 : Nat) (wk : World) (o : Array Value) (e : Int) : Prop where
  item : Blk wk g0 70 (itemA x)
  res : Blk wk g1 77 #[.int .i64 0, .int .i64 0, .int .i64 0, .int .i64 0, .int .i64 0, .int .i64 0, .int .i64 0]
  out : Blk wk g2 77 o
  bind : Blk wk bb 111 #[needFn b, .int .i64 e]
  tab : TAt wk b mb nv l
  chg : Chg (fun k => k = bb) w wk
  h1 : w.heap.size ≤ g1
  h2 : w.heap.size ≤ g2
  h12 : g1 ≠ g2
theorem first0 (a : Int) : Nm.first 0 a = a := by unfold Nm.first; rw [if_pos rfl]
theorem Mid.call {w wk wk' : World} {bb b mb g0 g1 g2 : Nat} {nv : Nat → Value} {l : List Nm.Stm} {x : Nm.Item} {o : Array Value} {e e' : Int} (h : Mid w bb b mb nv l x g0 g1 g2 wk o e) (hb : Bound wk wk' bb b e') : Mid w bb b mb nv l x g0 g1 g2 wk' o e' :=
  ⟨h.item.chg hb.1 (Blk.ne_ h.item h.bind (by decide)), h.res.chg hb.1 (Blk.ne_ h.res h.bind (by decide)), h.out.chg hb.1 (Blk.ne_ h.out h.bind (by decide)), hb.2,
    h.tab.chg hb.1 (fun _ hk e => h.tab.ne_blk h.bind (by decide) (by decide) (e ▸ hk)), Chg.trans h.chg hb.1 (fun _ _ h => h), h.h1, h.h2, h.h12⟩
theorem TAt.far {w : World} {b mb : Nat} {nv : Nat → Value} {l : List Nm.Stm} (h : TAt w b mb nv l) {p : Addr} (hp : ¬ TFoot b mb nv p.block) (u : Value) : TAt (w.setCell p u) b mb nv l :=
  h.chg ((Chg.refl (fun k => k = p.block) w).setCell (.inl rfl) u) (fun _ hk e => hp (e ▸ hk))
theorem Mid.set {w wk : World} {bb b mb g0 g1 g2 : Nat} {nv : Nat → Value} {l : List Nm.Stm} {x : Nm.Item} {o : Array Value} {e : Int} (h : Mid w bb b mb nv l x g0 g1 g2 wk o e) (i : Nat) (u : Value) : Mid w bb b mb nv l x g0 g1 g2 (wk.setCell ⟨g2, i, none⟩ u) (o.setIfInBounds i u) e :=
  ⟨h.item.far (p := ⟨g2, i, none⟩) (Blk.ne_ h.item h.out (by decide)) u, h.res.far (p := ⟨g2, i, none⟩) h.h12 u, h.out.set i u, h.bind.far (p := ⟨g2, i, none⟩) (Blk.ne_ h.bind h.out (by decide)) u,
    h.tab.far (p := ⟨g2, i, none⟩) (h.tab.ne_blk h.out (by decide) (by decide)) u, h.chg.setCell (p := ⟨g2, i, none⟩) (.inr h.h2) u, h.h1, h.h2, h.h12⟩
def set7 (w : World) (g : Nat) (c0 c1 c2 c3 c4 c5 c6 : Value) : World := ((((((w.setCell ⟨g, 0, none⟩ c0).setCell ⟨g, 1, none⟩ c1).setCell ⟨g, 2, none⟩ c2).setCell ⟨g, 3, none⟩ c3).setCell ⟨g, 4, none⟩ c4).setCell ⟨g, 5, none⟩ c5).setCell ⟨g, 6, none⟩ c6
theorem set7_blk {w : World} {g : Nat} {b0 b1 b2 b3 b4 b5 b6 : Value} (c0 c1 c2 c3 c4 c5 c6 : Value) (h : Blk w g 77 #[b0, b1, b2, b3, b4, b5, b6]) : Blk (set7 w g c0 c1 c2 c3 c4 c5 c6) g 77 #[c0, c1, c2, c3, c4, c5, c6] := by
  have h0 : Blk (w.setCell ⟨g, 0, none⟩ c0) g 77 #[c0, b1, b2, b3, b4, b5, b6] := h.set 0 c0
  have h1 : Blk ((w.setCell ⟨g, 0, none⟩ c0).setCell ⟨g, 1, none⟩ c1) g 77 #[c0, c1, b2, b3, b4, b5, b6] := h0.set 1 c1
  have h2 : Blk (((w.setCell ⟨g, 0, none⟩ c0).setCell ⟨g, 1, none⟩ c1).setCell ⟨g, 2, none⟩ c2) g 77 #[c0, c1, c2, b3, b4, b5, b6] := h1.set 2 c2
  have h3 : Blk ((((w.setCell ⟨g, 0, none⟩ c0).setCell ⟨g, 1, none⟩ c1).setCell ⟨g, 2, none⟩ c2).setCell ⟨g, 3, none⟩ c3) g 77 #[c0, c1, c2, c3, b4, b5, b6] := h2.set 3 c3
  have h4 : Blk (((((w.setCell ⟨g, 0, none⟩ c0).setCell ⟨g, 1, none⟩ c1).setCell ⟨g, 2, none⟩ c2).setCell ⟨g, 3, none⟩ c3).setCell ⟨g, 4, none⟩ c4) g 77 #[c0, c1, c2, c3, c4, b5, b6] := h3.set 4 c4
  have h5 : Blk ((((((w.setCell ⟨g, 0, none⟩ c0).setCell ⟨g, 1, none⟩ c1).setCell ⟨g, 2, none⟩ c2).setCell ⟨g, 3, none⟩ c3).setCell ⟨g, 4, none⟩ c4).setCell ⟨g, 5, none⟩ c5) g 77 #[c0, c1, c2, c3, c4, c5, b6] := h4.set 5 c5
  have h6 : Blk (((((((w.setCell ⟨g, 0, none⟩ c0).setCell ⟨g, 1, none⟩ c1).setCell ⟨g, 2, none⟩ c2).setCell ⟨g, 3, none⟩ c3).setCell ⟨g, 4, none⟩ c4).setCell ⟨g, 5, none⟩ c5).setCell ⟨g, 6, none⟩ c6) g 77 #[c0, c1, c2, c3, c4, c5, c6] := h5.set 6 c6
  exact h6
theorem set7_far {w : World} {g g' : Nat} {t : TypeId} {cs : Array Value} (c0 c1 c2 c3 c4 c5 c6 : Value) (h : Blk w g' t cs) (hne : g' ≠ g) : Blk (set7 w g c0 c1 c2 c3 c4 c5 c6) g' t cs :=
  ((((((h.far (p := ⟨g, 0, none⟩) hne c0).far (p := ⟨g, 1, none⟩) hne c1).far (p := ⟨g, 2, none⟩) hne c2).far (p := ⟨g, 3, none⟩) hne c3).far (p := ⟨g, 4, none⟩) hne c4).far (p := ⟨g, 5, none⟩) hne c5).far (p := ⟨g, 6, none⟩) hne c6
theorem set7_chg {S : Nat → Prop} {w0 w : World} {g : Nat} (c0 c1 c2 c3 c4 c5 c6 : Value) (h : Chg S w0 w) (hg : w0.heap.size ≤ g) : Chg S w0 (set7 w g c0 c1 c2 c3 c4 c5 c6) :=
  ((((((h.setCell (p := ⟨g, 0, none⟩) (.inr hg) c0).setCell (p := ⟨g, 1, none⟩) (.inr hg) c1).setCell (p := ⟨g, 2, none⟩) (.inr hg) c2).setCell (p := ⟨g, 3, none⟩) (.inr hg) c3).setCell (p := ⟨g, 4, none⟩) (.inr hg) c4).setCell (p := ⟨g, 5, none⟩) (.inr hg) c5).setCell (p := ⟨g, 6, none⟩) (.inr hg) c6
/-- The end of inst: what is made is laid into the result. -/
theorem Mid.done {w wk : World} {bb b mb g0 g1 g2 : Nat} {nv : Nat → Value} {l : List Nm.Stm} {x : Nm.Item} {o : Array Value} {e : Int} (h : Mid w bb b mb nv l x g0 g1 g2 wk o e) (c0 c1 c2 c3 c4 c5 c6 : Value) :
    Bound w (set7 wk g1 c0 c1 c2 c3 c4 c5 c6) bb b e ∧ Blk (set7 wk g1 c0 c1 c2 c3 c4 c5 c6) g1 77 #[c0, c1, c2, c3, c4, c5, c6] :=
  ⟨⟨set7_chg _ _ _ _ _ _ _ h.chg h.h1, set7_far _ _ _ _ _ _ _ h.bind (Blk.ne_ h.bind h.res (by decide))⟩, set7_blk _ _ _ _ _ _ _ h.res⟩
theorem Mid.free {w wk : World} {bb b mb g0 g1 g2 : Nat} {nv : Nat → Value} {l : List Nm.Stm} {x : Nm.Item} {o : Array Value} {e : Int} (h : Mid w bb b mb nv l x g0 g1 g2 wk o e) (i : Nat) : wk.frozen? ⟨g2, i, none⟩ = false ∧ wk.frozen? ⟨g1, i, none⟩ = false := ⟨h.out.frozen i, h.res.frozen i⟩

set_option maxRecDepth 100000 in
set_option maxHeartbeats 2000000 in
theorem inst_any (w : World) (bb b mb : Nat) (nv : Nat → Value) (l : List Nm.Stm) (x : Nm.Item) (hz : x.ln.size ≤ maxLen ∧ x.rn.size ≤ maxLen ∧ x.name.size ≤ maxLen ∧ x.user.size ≤ maxLen) (hB : Blk w bb 111 #[needFn b, .int .i64 0]) (hT : TAt w b mb nv l) :
    Calls Try.prog 57 #[.pointer (some ⟨bb, 0, none⟩), .agg (itemA x)] w fun e w' => e = .returned (.agg (instA (Nm.instV l x))) ∧ Bound w w' bb b (Nm.instE l x) := by
  obtain ⟨op, ln, lnum, rn, rnum, name, user, line, col⟩ := x
  obtain ⟨z1, z2, z3, z4⟩ := hz
  have Z1 := Lib.hid z1
  have Z2 := Lib.hid z2
  have Z3 := Lib.hid z3
  have Z4 := Lib.hid z4
  have HT := Lib.hid hT
  have HB := Lib.hid hB
  have hlt := hB.lt
  clear hB hT z1 z2 z3 z4
  unfold itemA
  dsimp only
  go_enter Try.func57, Try.ntmps57
  go_wp2_with fail
  obtain ⟨w1, hw1⟩ : ∃ w1, w1 = ((w.alloc (.cells #[.int .i64 op, .string ln, .int .i64 lnum, .string rn, .int .i64 rnum, .string name, .string user, .int .i64 line, .int .i64 col] 70)).alloc (.cells #[.int .i64 0, .int .i64 0, .int .i64 0, .int .i64 0, .int .i64 0, .int .i64 0, .int .i64 0] 77)).alloc (.cells #[.int .i64 op, .int .i64 0, .int .i64 0, .int .i64 0, .int .i64 0, .int .i64 0, .int .i64 0] 77) := ⟨_, rfl⟩
  have X1 : Hid (Blk w1 w.heap.size 70 #[.int .i64 op, .string ln, .int .i64 lnum, .string rn, .int .i64 rnum, .string name, .string user, .int .i64 line, .int .i64 col]) := by show Blk _ _ _ _; rw [hw1]; exact ((Blk.new _ _ _).alloc _).alloc _
  have R1 : Hid (Blk w1 (w.heap.size + 1) 77 #[.int .i64 0, .int .i64 0, .int .i64 0, .int .i64 0, .int .i64 0, .int .i64 0, .int .i64 0]) := by show Blk _ _ _ _; rw [hw1]; exact (blk_new2 _ _ _ _).alloc _
  have O1 : Hid (Blk w1 (w.heap.size + 1 + 1) 77 #[.int .i64 op, .int .i64 0, .int .i64 0, .int .i64 0, .int .i64 0, .int .i64 0, .int .i64 0]) := by
    show Blk _ _ _ _; rw [hw1]
    have h := blk_new2 (w.alloc (.cells #[.int .i64 op, .string ln, .int .i64 lnum, .string rn, .int .i64 rnum, .string name, .string user, .int .i64 line, .int .i64 col] 70)) (.cells #[.int .i64 0, .int .i64 0, .int .i64 0, .int .i64 0, .int .i64 0, .int .i64 0, .int .i64 0] 77) 77 #[.int .i64 op, .int .i64 0, .int .i64 0, .int .i64 0, .int .i64 0, .int .i64 0, .int .i64 0]
    rw [show (w.alloc (.cells #[.int .i64 op, .string ln, .int .i64 lnum, .string rn, .int .i64 rnum, .string name, .string user, .int .i64 line, .int .i64 col] 70)).heap.size = w.heap.size + 1 from by simp] at h
    exact h
  have C1 : Hid (Chg (fun _ => False) w w1) := by show Chg _ _ _; rw [hw1]; exact (((Chg.refl _ w).alloc _).alloc _).alloc _
  rw [← hw1]
  clear hw1
  obtain ⟨g0, hg0⟩ : ∃ g, g = w.heap.size := ⟨_, rfl⟩
  obtain ⟨g1, hg1⟩ : ∃ g, g = w.heap.size + 1 := ⟨_, rfl⟩
  obtain ⟨g2, hg2⟩ : ∃ g, g = w.heap.size + 1 + 1 := ⟨_, rfl⟩
  rw [← hg2] at O1 ⊢
  rw [← hg1] at R1 ⊢
  rw [← hg0] at X1 ⊢
  have M1 : Hid (Mid w bb b mb nv l ⟨op, ln, lnum, rn, rnum, name, user, line, col⟩ g0 g1 g2 w1 #[.int .i64 op, .int .i64 0, .int .i64 0, .int .i64 0, .int .i64 0, .int .i64 0, .int .i64 0] 0) :=
    ⟨X1.out, R1.out, O1.out, HB.out.chg C1.out (fun h => h), HT.out.quiet C1.out, C1.out.mono (fun _ _ h => h.elim), by omega, by omega, by omega⟩
  clear hg0 hg1 hg2 X1 R1 O1 C1 HT HB hlt
  obtain ⟨c0, c1, c2, c3, c4, c5, c6, c7, c8⟩ := item_blk M1.out.item
  refine (compares_any w1 op).mono ?_
  rintro e w1' ⟨rfl, rfl⟩
  by_cases hop : 3 ≤ op ∧ op ≤ 8
  · have hk : decide (3 ≤ op ∧ op ≤ 8) = true := by simpa using hop
    have HV : Hid (Nm.instV l ⟨op, ln, lnum, rn, rnum, name, user, line, col⟩ = ⟨op, (Nm.valV l ln lnum).1, (Nm.valV l ln lnum).2, (Nm.valV l rn rnum).1, (Nm.valV l rn rnum).2, 0, 0⟩) := by show _ = _; unfold Nm.instV; rw [if_pos hop]
    have HE : Hid (Nm.instE l ⟨op, ln, lnum, rn, rnum, name, user, line, col⟩ = Nm.first (Nm.valE l ln) (Nm.valE l rn)) := by show _ = _; unfold Nm.instE; rw [if_pos hop]
    rw [hk]
    clear hop hk
    go_wp2_with fail
    refine (bval_any w1 bb b mb nv l ln lnum 0 Z1.out M1.out.bind M1.out.tab).mono ?_
    rintro e w2 ⟨rfl, hb⟩
    have M2 := Lib.hid (M1.out.call hb)
    clear hb c0 c1 c2 c3 c4 c5 c6 c7 c8
    obtain ⟨c0, c1, c2, c3, c4, c5, c6, c7, c8⟩ := item_blk M2.out.item
    obtain ⟨o0, o1, o2, o3, o4, o5, o6⟩ := inst_blk M2.out.out
    obtain ⟨r0, r1, r2, r3, r4, r5, r6⟩ := inst_blk M2.out.res
    obtain ⟨f0, f1, f2, f3, f4, f5, f6⟩ := inst_free M2.out.out
    obtain ⟨y0, y1, y2, y3, y4, y5, y6⟩ := inst_free M2.out.res
    have hlt2 := M2.out.out.lt
    have hlt3 := M2.out.res.lt
    have hne := M2.out.h12
    go_wp2_with fail
    have M3 : Hid (Mid w bb b mb nv l ⟨op, ln, lnum, rn, rnum, name, user, line, col⟩ g0 g1 g2 ((w2.setCell ⟨g2, 1, none⟩ (.int .i64 (Nm.valV l ln lnum).1)).setCell ⟨g2, 2, none⟩ (.int .i64 (Nm.valV l ln lnum).2)) #[.int .i64 op, (.int .i64 (Nm.valV l ln lnum).1), (.int .i64 (Nm.valV l ln lnum).2), .int .i64 0, .int .i64 0, .int .i64 0, .int .i64 0] (Nm.first 0 (Nm.valE l ln))) := (M2.out.set 1 (.int .i64 (Nm.valV l ln lnum).1)).set 2 (.int .i64 (Nm.valV l ln lnum).2)
    obtain ⟨w3, hw3⟩ : ∃ w3, w3 = (w2.setCell ⟨g2, 1, none⟩ (.int .i64 (Nm.valV l ln lnum).1)).setCell ⟨g2, 2, none⟩ (.int .i64 (Nm.valV l ln lnum).2) := ⟨_, rfl⟩
    rw [← hw3] at M3 ⊢
    clear hw3 M2 c0 c1 c2 c3 c4 c5 c6 c7 c8 o0 o1 o2 o3 o4 o5 o6 f0 f1 f2 f3 f4 f5 f6 r0 r1 r2 r3 r4 r5 r6 y0 y1 y2 y3 y4 y5 y6 hlt2 hlt3 hne
    refine (bval_any w3 bb b mb nv l rn rnum _ Z2.out M3.out.bind M3.out.tab).mono ?_
    rintro e w4 ⟨rfl, hb⟩
    have M4 := Lib.hid (M3.out.call hb)
    clear hb M3
    obtain ⟨o0, o1, o2, o3, o4, o5, o6⟩ := inst_blk M4.out.out
    obtain ⟨r0, r1, r2, r3, r4, r5, r6⟩ := inst_blk M4.out.res
    obtain ⟨f0, f1, f2, f3, f4, f5, f6⟩ := inst_free M4.out.out
    obtain ⟨y0, y1, y2, y3, y4, y5, y6⟩ := inst_free M4.out.res
    have hlt2 := M4.out.out.lt
    have hlt3 := M4.out.res.lt
    have hne := M4.out.h12
    go_wp2
    have M5 : Mid w bb b mb nv l ⟨op, ln, lnum, rn, rnum, name, user, line, col⟩ g0 g1 g2 ((w4.setCell ⟨g2, 3, none⟩ (.int .i64 (Nm.valV l rn rnum).1)).setCell ⟨g2, 4, none⟩ (.int .i64 (Nm.valV l rn rnum).2)) #[.int .i64 op, (.int .i64 (Nm.valV l ln lnum).1), (.int .i64 (Nm.valV l ln lnum).2), (.int .i64 (Nm.valV l rn rnum).1), (.int .i64 (Nm.valV l rn rnum).2), .int .i64 0, .int .i64 0] _ := (M4.out.set 3 (.int .i64 (Nm.valV l rn rnum).1)).set 4 (.int .i64 (Nm.valV l rn rnum).2)
    obtain ⟨dB, dR⟩ := M5.done (.int .i64 op) (.int .i64 (Nm.valV l ln lnum).1) (.int .i64 (Nm.valV l ln lnum).2) (.int .i64 (Nm.valV l rn rnum).1) (.int .i64 (Nm.valV l rn rnum).2) (.int .i64 0) (.int .i64 0)
    refine inst_ret rfl rfl dR rfl ⟨by rw [HV.out]; rfl, ?_⟩
    rw [HE.out]
    try simp only [first0] at dB
    exact dB
  by_cases h9 : op = 9
  · subst h9
    have HV : Hid (Nm.instV l ⟨9, ln, lnum, rn, rnum, name, user, line, col⟩ = ⟨9, 0, 0, 0, 0, (Nm.need l name 4).1, 0⟩) := rfl
    have HE : Hid (Nm.instE l ⟨9, ln, lnum, rn, rnum, name, user, line, col⟩ = (Nm.need l name 4).2) := rfl
    rw [show decide ((3 : Int) ≤ 9 ∧ ((9 : Int) ≤ 8)) = false from rfl]
    clear hop
    go_wp2_with fail
    refine (bname_any w1 bb b mb nv l name 4 0 Z3.out M1.out.bind M1.out.tab).mono ?_
    rintro e w2 ⟨rfl, hb⟩
    have M2 := Lib.hid (M1.out.call hb)
    clear hb M1 c0 c1 c2 c3 c4 c5 c6 c7 c8
    obtain ⟨o0, o1, o2, o3, o4, o5, o6⟩ := inst_blk M2.out.out
    obtain ⟨r0, r1, r2, r3, r4, r5, r6⟩ := inst_blk M2.out.res
    obtain ⟨f0, f1, f2, f3, f4, f5, f6⟩ := inst_free M2.out.out
    obtain ⟨y0, y1, y2, y3, y4, y5, y6⟩ := inst_free M2.out.res
    have hlt2 := M2.out.out.lt
    have hlt3 := M2.out.res.lt
    have hne := M2.out.h12
    go_wp2
    have M5 : Mid w bb b mb nv l ⟨9, ln, lnum, rn, rnum, name, user, line, col⟩ g0 g1 g2 (w2.setCell ⟨g2, 5, none⟩ (.int .i64 (Nm.need l name 4).1)) #[.int .i64 9, .int .i64 0, .int .i64 0, .int .i64 0, .int .i64 0, (.int .i64 (Nm.need l name 4).1), .int .i64 0] _ := M2.out.set 5 (.int .i64 (Nm.need l name 4).1)
    obtain ⟨dB, dR⟩ := M5.done (.int .i64 9) (.int .i64 0) (.int .i64 0) (.int .i64 0) (.int .i64 0) (.int .i64 (Nm.need l name 4).1) (.int .i64 0)
    refine inst_ret rfl rfl dR rfl ⟨by rw [HV.out]; rfl, ?_⟩
    rw [HE.out]
    try simp only [first0] at dB
    exact dB
  by_cases h10 : op = 10
  · subst h10
    have HV : Hid (Nm.instV l ⟨10, ln, lnum, rn, rnum, name, user, line, col⟩ = ⟨10, 0, 0, 0, 0, (Nm.need l name 7).1, 0⟩) := rfl
    have HE : Hid (Nm.instE l ⟨10, ln, lnum, rn, rnum, name, user, line, col⟩ = (Nm.need l name 7).2) := rfl
    rw [show decide ((3 : Int) ≤ 10 ∧ ((10 : Int) ≤ 8)) = false from rfl]
    clear hop
    go_wp2_with fail
    refine (bname_any w1 bb b mb nv l name 7 0 Z3.out M1.out.bind M1.out.tab).mono ?_
    rintro e w2 ⟨rfl, hb⟩
    have M2 := Lib.hid (M1.out.call hb)
    clear hb M1 c0 c1 c2 c3 c4 c5 c6 c7 c8
    obtain ⟨o0, o1, o2, o3, o4, o5, o6⟩ := inst_blk M2.out.out
    obtain ⟨r0, r1, r2, r3, r4, r5, r6⟩ := inst_blk M2.out.res
    obtain ⟨f0, f1, f2, f3, f4, f5, f6⟩ := inst_free M2.out.out
    obtain ⟨y0, y1, y2, y3, y4, y5, y6⟩ := inst_free M2.out.res
    have hlt2 := M2.out.out.lt
    have hlt3 := M2.out.res.lt
    have hne := M2.out.h12
    go_wp2
    have M5 : Mid w bb b mb nv l ⟨10, ln, lnum, rn, rnum, name, user, line, col⟩ g0 g1 g2 (w2.setCell ⟨g2, 5, none⟩ (.int .i64 (Nm.need l name 7).1)) #[.int .i64 10, .int .i64 0, .int .i64 0, .int .i64 0, .int .i64 0, (.int .i64 (Nm.need l name 7).1), .int .i64 0] _ := M2.out.set 5 (.int .i64 (Nm.need l name 7).1)
    obtain ⟨dB, dR⟩ := M5.done (.int .i64 10) (.int .i64 0) (.int .i64 0) (.int .i64 0) (.int .i64 0) (.int .i64 (Nm.need l name 7).1) (.int .i64 0)
    refine inst_ret rfl rfl dR rfl ⟨by rw [HV.out]; rfl, ?_⟩
    rw [HE.out]
    try simp only [first0] at dB
    exact dB
  by_cases h11 : op = 11
  · subst h11
    have HV : Hid (Nm.instV l ⟨11, ln, lnum, rn, rnum, name, user, line, col⟩ = ⟨11, 0, 0, 0, 0, (Nm.need l name 5).1, 0⟩) := rfl
    have HE : Hid (Nm.instE l ⟨11, ln, lnum, rn, rnum, name, user, line, col⟩ = (Nm.need l name 5).2) := rfl
    rw [show decide ((3 : Int) ≤ 11 ∧ ((11 : Int) ≤ 8)) = false from rfl]
    clear hop
    go_wp2_with fail
    refine (bname_any w1 bb b mb nv l name 5 0 Z3.out M1.out.bind M1.out.tab).mono ?_
    rintro e w2 ⟨rfl, hb⟩
    have M2 := Lib.hid (M1.out.call hb)
    clear hb M1 c0 c1 c2 c3 c4 c5 c6 c7 c8
    obtain ⟨o0, o1, o2, o3, o4, o5, o6⟩ := inst_blk M2.out.out
    obtain ⟨r0, r1, r2, r3, r4, r5, r6⟩ := inst_blk M2.out.res
    obtain ⟨f0, f1, f2, f3, f4, f5, f6⟩ := inst_free M2.out.out
    obtain ⟨y0, y1, y2, y3, y4, y5, y6⟩ := inst_free M2.out.res
    have hlt2 := M2.out.out.lt
    have hlt3 := M2.out.res.lt
    have hne := M2.out.h12
    go_wp2
    have M5 : Mid w bb b mb nv l ⟨11, ln, lnum, rn, rnum, name, user, line, col⟩ g0 g1 g2 (w2.setCell ⟨g2, 5, none⟩ (.int .i64 (Nm.need l name 5).1)) #[.int .i64 11, .int .i64 0, .int .i64 0, .int .i64 0, .int .i64 0, (.int .i64 (Nm.need l name 5).1), .int .i64 0] _ := M2.out.set 5 (.int .i64 (Nm.need l name 5).1)
    obtain ⟨dB, dR⟩ := M5.done (.int .i64 11) (.int .i64 0) (.int .i64 0) (.int .i64 0) (.int .i64 0) (.int .i64 (Nm.need l name 5).1) (.int .i64 0)
    refine inst_ret rfl rfl dR rfl ⟨by rw [HV.out]; rfl, ?_⟩
    rw [HE.out]
    try simp only [first0] at dB
    exact dB
  by_cases h12 : op = 12
  · subst h12
    have HV : Hid (Nm.instV l ⟨12, ln, lnum, rn, rnum, name, user, line, col⟩ = ⟨12, 0, 0, 0, 0, (Nm.need l name 5).1, (Nm.need l user 2).1⟩) := rfl
    have HE : Hid (Nm.instE l ⟨12, ln, lnum, rn, rnum, name, user, line, col⟩ = Nm.first (Nm.need l user 2).2 (Nm.need l name 5).2) := rfl
    rw [show decide ((3 : Int) ≤ 12 ∧ ((12 : Int) ≤ 8)) = false from rfl]
    clear hop h9 h10 h11
    go_wp2_with fail
    refine (bname_any w1 bb b mb nv l user 2 0 Z4.out M1.out.bind M1.out.tab).mono ?_
    rintro e w2 ⟨rfl, hb⟩
    have M2 := Lib.hid (M1.out.call hb)
    clear hb M1 c0 c1 c2 c3 c4 c5 c6 c7 c8
    obtain ⟨c0, c1, c2, c3, c4, c5, c6, c7, c8⟩ := item_blk M2.out.item
    obtain ⟨o0, o1, o2, o3, o4, o5, o6⟩ := inst_blk M2.out.out
    obtain ⟨r0, r1, r2, r3, r4, r5, r6⟩ := inst_blk M2.out.res
    obtain ⟨f0, f1, f2, f3, f4, f5, f6⟩ := inst_free M2.out.out
    obtain ⟨y0, y1, y2, y3, y4, y5, y6⟩ := inst_free M2.out.res
    have hlt2 := M2.out.out.lt
    have hlt3 := M2.out.res.lt
    have hne := M2.out.h12
    go_wp2_with fail
    have M3 : Hid (Mid w bb b mb nv l ⟨12, ln, lnum, rn, rnum, name, user, line, col⟩ g0 g1 g2 (w2.setCell ⟨g2, 6, none⟩ (.int .i64 (Nm.need l user 2).1)) #[.int .i64 12, .int .i64 0, .int .i64 0, .int .i64 0, .int .i64 0, .int .i64 0, (.int .i64 (Nm.need l user 2).1)] (Nm.first 0 (Nm.need l user 2).2)) := M2.out.set 6 (.int .i64 (Nm.need l user 2).1)
    obtain ⟨w3, hw3⟩ : ∃ w3, w3 = w2.setCell ⟨g2, 6, none⟩ (.int .i64 (Nm.need l user 2).1) := ⟨_, rfl⟩
    rw [← hw3] at M3 ⊢
    clear hw3 M2 c0 c1 c2 c3 c4 c5 c6 c7 c8 o0 o1 o2 o3 o4 o5 o6 f0 f1 f2 f3 f4 f5 f6 r0 r1 r2 r3 r4 r5 r6 y0 y1 y2 y3 y4 y5 y6 hlt2 hlt3 hne
    refine (bname_any w3 bb b mb nv l name 5 _ Z3.out M3.out.bind M3.out.tab).mono ?_
    rintro e w4 ⟨rfl, hb⟩
    have M4 := Lib.hid (M3.out.call hb)
    clear hb M3
    obtain ⟨o0, o1, o2, o3, o4, o5, o6⟩ := inst_blk M4.out.out
    obtain ⟨r0, r1, r2, r3, r4, r5, r6⟩ := inst_blk M4.out.res
    obtain ⟨f0, f1, f2, f3, f4, f5, f6⟩ := inst_free M4.out.out
    obtain ⟨y0, y1, y2, y3, y4, y5, y6⟩ := inst_free M4.out.res
    have hlt2 := M4.out.out.lt
    have hlt3 := M4.out.res.lt
    have hne := M4.out.h12
    go_wp2
    have M5 : Mid w bb b mb nv l ⟨12, ln, lnum, rn, rnum, name, user, line, col⟩ g0 g1 g2 (w4.setCell ⟨g2, 5, none⟩ (.int .i64 (Nm.need l name 5).1)) #[.int .i64 12, .int .i64 0, .int .i64 0, .int .i64 0, .int .i64 0, (.int .i64 (Nm.need l name 5).1), (.int .i64 (Nm.need l user 2).1)] _ := M4.out.set 5 (.int .i64 (Nm.need l name 5).1)
    obtain ⟨dB, dR⟩ := M5.done (.int .i64 12) (.int .i64 0) (.int .i64 0) (.int .i64 0) (.int .i64 0) (.int .i64 (Nm.need l name 5).1) (.int .i64 (Nm.need l user 2).1)
    refine inst_ret rfl rfl dR rfl ⟨by rw [HV.out]; rfl, ?_⟩
    rw [HE.out]
    try simp only [first0] at dB
    exact dB
  have HV : Hid (Nm.instV l ⟨op, ln, lnum, rn, rnum, name, user, line, col⟩ = ⟨op, 0, 0, 0, 0, 0, 0⟩) := by show _ = _; unfold Nm.instV; rw [if_neg hop, if_neg h9, if_neg h10, if_neg h11, if_neg h12]
  have HE : Hid (Nm.instE l ⟨op, ln, lnum, rn, rnum, name, user, line, col⟩ = 0) := by show _ = _; unfold Nm.instE; rw [if_neg hop, if_neg h9, if_neg h10, if_neg h11, if_neg h12]
  have hk : decide (3 ≤ op ∧ op ≤ 8) = false := by rw [decide_eq_false_iff_not]; exact hop
  have k9 : (op == 9) = false := by simpa using h9
  have k10 : (op == 10) = false := by simpa using h10
  have k11 : (op == 11) = false := by simpa using h11
  have k12 : (op == 12) = false := by simpa using h12
  rw [hk]
  clear hop hk
  obtain ⟨o0, o1, o2, o3, o4, o5, o6⟩ := inst_blk M1.out.out
  obtain ⟨r0, r1, r2, r3, r4, r5, r6⟩ := inst_blk M1.out.res
  obtain ⟨f0, f1, f2, f3, f4, f5, f6⟩ := inst_free M1.out.out
  obtain ⟨y0, y1, y2, y3, y4, y5, y6⟩ := inst_free M1.out.res
  have hlt2 := M1.out.out.lt
  have hlt3 := M1.out.res.lt
  have hne := M1.out.h12
  go_wp2
  obtain ⟨dB, dR⟩ := M1.out.done (.int .i64 op) (.int .i64 0) (.int .i64 0) (.int .i64 0) (.int .i64 0) (.int .i64 0) (.int .i64 0)
  refine inst_ret rfl rfl dR rfl ⟨by rw [HV.out]; rfl, ?_⟩
  rw [HE.out]
  exact dB
end Go.Proofs.Ytpppgnphblbbcaa
