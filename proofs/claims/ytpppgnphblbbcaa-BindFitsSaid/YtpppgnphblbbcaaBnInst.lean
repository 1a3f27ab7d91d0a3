/- The walks of the binder: name, val, inst. -/
import Derived.Test.YtpppgnphblbbcaaBnPlain
namespace Go.Proofs.Ytpppgnphblbbcaa
open Go.RowKit

theorem val_ret {fn : Func} {p : Tmp} (h : fn.results = #[.cell p 75]) {R : Ending → World → Prop} {a : Act} {w : World} {g : Nat} {c0 c1 : Value} (ht : a.tmps.getD p undef = .pointer (some ⟨g, 0, none⟩))
    (hB : Blk w g 75 #[c0, c1]) (hd : a.defers = []) (hR : R (.returned (.agg #[c0, c1])) w) : bodyPost Try.prog fn R .ret a w := by
  refine bodyPost_ret (v := .agg #[c0, c1]) ?_ hd hR
  simp only [results, h]
  have d0 : w.cell? ⟨g, 0, none⟩ = some c0 := by rw [hB.cell]; rfl
  have d1 : w.cell? ⟨g, 1, none⟩ = some c1 := by rw [hB.cell]; rfl
  have ht' : a.tmps[p]?.getD undef = .pointer (some ⟨g, 0, none⟩) := by simpa using ht
  simp [ht', go_sem, d0, d1, Result.andThen]
theorem inst_ret {fn : Func} {p : Tmp} (h : fn.results = #[.cell p 77]) {R : Ending → World → Prop} {a : Act} {w : World} {g : Nat} {c0 c1 c2 c3 c4 c5 c6 : Value} (ht : a.tmps.getD p undef = .pointer (some ⟨g, 0, none⟩))
    (hB : Blk w g 77 #[c0, c1, c2, c3, c4, c5, c6]) (hd : a.defers = []) (hR : R (.returned (.agg #[c0, c1, c2, c3, c4, c5, c6])) w) : bodyPost Try.prog fn R .ret a w := by
  refine bodyPost_ret (v := .agg #[c0, c1, c2, c3, c4, c5, c6]) ?_ hd hR
  simp only [results, h]
  have d0 : w.cell? ⟨g, 0, none⟩ = some c0 := by rw [hB.cell]; rfl
  have d1 : w.cell? ⟨g, 1, none⟩ = some c1 := by rw [hB.cell]; rfl
  have d2 : w.cell? ⟨g, 2, none⟩ = some c2 := by rw [hB.cell]; rfl
  have d3 : w.cell? ⟨g, 3, none⟩ = some c3 := by rw [hB.cell]; rfl
  have d4 : w.cell? ⟨g, 4, none⟩ = some c4 := by rw [hB.cell]; rfl
  have d5 : w.cell? ⟨g, 5, none⟩ = some c5 := by rw [hB.cell]; rfl
  have d6 : w.cell? ⟨g, 6, none⟩ = some c6 := by rw [hB.cell]; rfl
  have ht' : a.tmps[p]?.getD undef = .pointer (some ⟨g, 0, none⟩) := by simpa using ht
  simp [ht', go_sem, d0, d1, d2, d3, d4, d5, d6, Result.andThen]
theorem blk_new2 (w : World) (o : Obj) (t : TypeId) (cs : Array Value) : Blk ((w.alloc o).alloc (.cells cs t)) (w.heap.size + 1) t cs := by
  have h := Blk.new (w.alloc o) t cs
  rw [show (w.alloc o).heap.size = w.heap.size + 1 from by simp] at h
  exact h
theorem chg_alloc {S : Nat → Prop} {w w' : World} (o : Obj) (h : Chg S (w.alloc o) w') : Chg S w w' := ⟨h.os, h.tape, h.output, Nat.le_trans (by simp) h.size, fun i hi hS => (h.block i (by simp; omega) hS).trans (Below.heap_alloc w o i hi)⟩
def needFn (b : Nat) : Value := .func (.func 22) #[.pointer (some ⟨b, 0, none⟩)] #[]
/-- What a call of the binder leaves: its error is the first one. -/
def Bound (w w' : World) (bb b : Nat) (e : Int) : Prop := Chg (fun k => k = bb) w w' ∧ Blk w' bb 111 #[needFn b, .int .i64 e]

set_option maxRecDepth 100000 in
set_option maxHeartbeats 1000000 in
theorem bname_any (w : World) (bb b mb : Nat) (nv : Nat → Value) (l : List Nm.Stm) (nm : ByteArray) (k e0 : Int) (hz : nm.size ≤ maxLen) (hB : Blk w bb 111 #[needFn b, .int .i64 e0]) (hT : TAt w b mb nv l) :
    Calls Try.prog 77 #[.pointer (some ⟨bb, 0, none⟩), .string nm, .int .i64 k] w fun e w' => e = .returned (.int .i64 (Nm.need l nm k).1) ∧ Bound w w' bb b (Nm.first e0 (Nm.need l nm k).2) := by
  have HT := Lib.hid hT
  have HZ := Lib.hid hz
  have c0 : w.cell? ⟨bb, 0, none⟩ = some (needFn b) := by rw [hB.cell]; rfl
  have HB := Lib.hid hB
  unfold needFn at c0
  obtain ⟨p, q, hpq⟩ : ∃ p q, Nm.need l nm k = (p, q) := ⟨_, _, rfl⟩
  rw [hpq]
  have HN := Lib.hid hpq
  clear hB hT hz hpq
  go_enter Try.func77, Try.ntmps77
  go_wp2_with fail
  refine (need_any w b mb nv l nm k HZ.out HT.out).mono ?_
  rintro e w1 ⟨rfl, hC⟩
  rw [HN.out]
  simp only [needV]
  have HB1 := Lib.hid (HB.out.chg hC (fun h => h))
  have c1 : w1.cell? ⟨bb, 1, none⟩ = some (.int .i64 e0) := by rw [HB1.out.cell]; rfl
  have f1 : w1.frozen? ⟨bb, 1, none⟩ = false := HB1.out.frozen 1
  have HC := Lib.hid hC
  clear hC c0
  by_cases he : e0 = 0
  · have hf : Hid (Nm.first e0 q = q) := by show Nm.first e0 q = q; unfold Nm.first; rw [if_pos he]
    have k0 : (e0 == 0) = true := by simpa using he
    go_wp2
    go_ret
    refine ⟨rfl, Chg.setCell (S := fun k => k = bb) (p := ⟨bb, 1, none⟩) (HC.out.mono (fun _ _ h => h.elim)) (.inl rfl) _, ?_⟩
    rw [hf.out]
    exact HB1.out.set 1 _
  · have hf : Hid (Nm.first e0 q = e0) := by show Nm.first e0 q = e0; unfold Nm.first; rw [if_neg he]
    have k0 : (e0 == 0) = false := by simpa using he
    go_wp2
    go_ret
    exact ⟨rfl, HC.out.mono (fun _ _ h => h.elim), by rw [hf.out]; exact HB1.out⟩

theorem byte_dec (a : ByteArray) : (a = ⟨#[]⟩ ∧ a.toList.isEmpty = true ∧ (a.toList == (⟨#[]⟩ : ByteArray).toList) = true) ∨ (a ≠ ⟨#[]⟩ ∧ a.toList.isEmpty = false ∧ (a.toList == (⟨#[]⟩ : ByteArray).toList) = false) := by
  by_cases h : a = ⟨#[]⟩
  · subst h; exact .inl ⟨rfl, by decide +kernel, str_same _⟩
  · refine .inr ⟨h, ?_, str_ne h⟩
    cases hl : a.toList with
    | nil => exact absurd (bytes_eq (by rw [hl]; decide +kernel)) h
    | cons _ _ => rfl

set_option maxRecDepth 100000 in
set_option maxHeartbeats 1000000 in
theorem bval_any (w : World) (bb b mb : Nat) (nv : Nat → Value) (l : List Nm.Stm) (nm : ByteArray) (num e0 : Int) (hz : nm.size ≤ maxLen) (hB : Blk w bb 111 #[needFn b, .int .i64 e0]) (hT : TAt w b mb nv l) :
    Calls Try.prog 76 #[.pointer (some ⟨bb, 0, none⟩), .agg #[.string nm, .int .i64 num]] w fun e w' => e = .returned (.agg #[.int .i64 (Nm.valV l nm num).1, .int .i64 (Nm.valV l nm num).2]) ∧ Bound w w' bb b (Nm.first e0 (Nm.valE l nm)) := by
  have HT := Lib.hid hT
  have HZ := Lib.hid hz
  have HB := Lib.hid hB
  clear hB hT hz
  rcases byte_dec nm with ⟨rfl, k1, k2⟩ | ⟨hne, k1, k2⟩
  · have hv : Hid (Nm.valV l ⟨#[]⟩ num = (-1, num)) := by show Nm.valV l ⟨#[]⟩ num = (-1, num); unfold Nm.valV; rw [if_pos rfl]
    have hE : Hid (Nm.first e0 (Nm.valE l ⟨#[]⟩) = e0) := by show Nm.first e0 (Nm.valE l ⟨#[]⟩) = e0; unfold Nm.valE Nm.first; rw [if_pos rfl]; split <;> simp_all
    have hlt := HB.out.lt
    go_enter Try.func76, Try.ntmps76
    go_wp2
    refine val_ret rfl rfl (blk_new2 _ _ _ _) rfl ⟨by rw [hv.out], ?_, ?_⟩
    · exact ((Chg.refl _ w).alloc _).alloc _
    · rw [hE.out]
      exact (HB.out.alloc _).alloc _
  · have hv : Hid (Nm.valV l nm num = ((Nm.need l nm 1).1, 0)) := by show Nm.valV l nm num = _; unfold Nm.valV; rw [if_neg hne]
    have hE : Hid (Nm.valE l nm = (Nm.need l nm 1).2) := by show Nm.valE l nm = _; unfold Nm.valE; rw [if_neg hne]
    have hlt := HB.out.lt
    clear hne
    go_enter Try.func76, Try.ntmps76
    go_wp2_with fail
    have hX := blk_new2 w (.cells #[.string nm, .int .i64 num] 68) 75 #[.int .i64 0, .int .i64 0]
    have hC0 : Chg (fun _ => False) w ((w.alloc (.cells #[.string nm, .int .i64 num] 68)).alloc (.cells #[.int .i64 0, .int .i64 0] 75)) := ((Chg.refl _ w).alloc _).alloc _
    obtain ⟨w1, hw1⟩ : ∃ w1, w1 = (w.alloc (.cells #[.string nm, .int .i64 num] 68)).alloc (.cells #[.int .i64 0, .int .i64 0] 75) := ⟨_, rfl⟩
    rw [← hw1] at hX hC0 ⊢
    have HX := Lib.hid hX
    have HC0 := Lib.hid hC0
    clear hw1 hX hC0
    refine (bname_any w1 bb b mb nv l nm 1 e0 HZ.out (HB.out.chg HC0.out (fun h => h)) (HT.out.quiet HC0.out)).mono ?_
    rintro e w2 ⟨rfl, hC, hB2⟩
    have hne : ¬ w.heap.size + 1 = bb := by omega
    have HX2 := Lib.hid (HX.out.chg hC hne)
    have d0 : w2.cell? ⟨w.heap.size + 1, 0, none⟩ = some (.int .i64 0) := by rw [HX2.out.cell]; rfl
    have d1 : w2.cell? ⟨w.heap.size + 1, 1, none⟩ = some (.int .i64 0) := by rw [HX2.out.cell]; rfl
    have f0 : w2.frozen? ⟨w.heap.size + 1, 0, none⟩ = false := HX2.out.frozen 0
    have f1 : w2.frozen? ⟨w.heap.size + 1, 1, none⟩ = false := HX2.out.frozen 1
    have hwlt := HX2.out.lt
    have HC := Lib.hid (Chg.trans (HC0.out.mono (T := fun k => k = bb) (fun _ _ h => h.elim)) hC (fun _ _ h => h))
    have HB2 := Lib.hid hB2
    have HNE := Lib.hid hne
    clear hC hB2 hlt
    go_wp2
    refine val_ret (c0 := .int .i64 (Nm.need l nm 1).1) (c1 := .int .i64 0) rfl rfl (g := w.heap.size + 1) ?_ rfl ⟨by rw [hv.out], ?_, ?_⟩
    · have := (HX2.out.set 0 (.int .i64 (Nm.need l nm 1).1)).set 1 (.int .i64 0)
      exact this
    · exact Chg.setCell (p := ⟨w.heap.size + 1, 1, none⟩) (Chg.setCell (p := ⟨w.heap.size + 1, 0, none⟩) HC.out (.inr (by simp)) _) (.inr (by simp)) _
    · rw [hE.out]
      exact (HB2.out.far (p := ⟨w.heap.size + 1, 0, none⟩) (fun h => HNE.out h.symm) _).far (p := ⟨w.heap.size + 1, 1, none⟩) (fun h => HNE.out h.symm) _
end Go.Proofs.Ytpppgnphblbbcaa
