/- The walk of Build. -/
import Derived.Test.YtpppgnphblbbcaaNmAdd
namespace Go.Proofs.Ytpppgnphblbbcaa
open Go.RowKit

/-- What Build hands back: no table, and what is wrong first; or a table of all statements. -/
def Built (w w' : World) (l : List Nm.Stm) (v : Value) : Prop :=
  (v = .pointer none ∧ (Nm.check l).1 ≠ 0) ∨
  ((Nm.check l) = (0, 0, 0) ∧ ∃ b mb nv, v = .pointer (some ⟨b, 0, none⟩) ∧ TAt w' b mb nv l ∧ ∀ k, TFoot b mb nv k → w.heap.size ≤ k)
def BuildDone (w : World) (l : List Nm.Stm) (e : Ending) (w' : World) : Prop :=
  ∃ v, e = .returned (.tuple #[v, faultV (Nm.check l)]) ∧ Built w w' l v ∧ Chg (fun _ => False) w w'
/-- A table in the making, and the result's variable, apart. -/
def Making (w wr : World) (b mb : Nat) (l : List Nm.Stm) : Prop :=
  ∃ nv, TAt wr b mb nv l ∧ (∀ k, TFoot b mb nv k → w.heap.size < k ∧ k < wr.heap.size) ∧ Chg (fun _ => False) w wr ∧ Res0 wr w.heap.size

theorem add_x (w : World) (b mb : Nat) (nv : Nat → Value) (l : List Nm.Stm) (x : StmC) (h : TAt w b mb nv l) (hz : x.s.name.size ≤ maxLen) (hmore : l.length < 1000000) :
    Calls Try.prog 53 #[.pointer (some ⟨b, 0, none⟩), .agg #[.int .i64 x.s.kind, .string x.s.name, .int .i64 x.s.line, .int .i64 x.s.col, .int .i64 x.ini, .slice x.nA x.nn x.nc, .string x.role, .string x.stage, .string x.ev, .int .i64 x.tms, .slice x.fA x.fn x.fc, .bool x.fin]] w fun e w' => e = .returned (.int .i64 (Nm.bad l x.s)) ∧ AddDone b mb nv l x.s w w' := add_any w b mb nv l x h hz hmore

theorem take_map_succ (l : List StmC) (j : Nat) (h : j < l.length) : (stms l).take (j + 1) = (stms l).take j ++ [l[j].s] := by
  rw [take_snoc' _ _ (by simpa [stms] using h)]; simp [stms]

theorem new_table (w : World) (mb : Nat) : RowF (w.alloc (.cells #[.map (some mb), .slice none 0 0, .slice none 0 0, .slice none 0 0, .slice none 0 0, .slice none 0 0, .slice none 0 0, .slice none 0 0, .slice none 0 0, .slice none 0 0, .int .i64 0, .int .i64 0, .int .i64 0, .int .i64 0, .int .i64 0, .int .i64 0, .int .i64 0, .int .i64 0, .int .i64 0] 102)) w.heap.size 102 19 (tf mb (fun _ => .slice none 0 0) (fun _ => 0)) := by
  refine ⟨_, Blk.new _ _ _, rfl, fun i hi => ?_⟩
  unfold tf
  have hc : i = 0 ∨ i = 1 ∨ i = 2 ∨ i = 3 ∨ i = 4 ∨ i = 5 ∨ i = 6 ∨ i = 7 ∨ i = 8 ∨ i = 9 ∨ i = 10 ∨ i = 11 ∨ i = 12 ∨ i = 13 ∨ i = 14 ∨ i = 15 ∨ i = 16 ∨ i = 17 ∨ i = 18 := by omega
  rcases hc with rfl | rfl | rfl | rfl | rfl | rfl | rfl | rfl | rfl | rfl | rfl | rfl | rfl | rfl | rfl | rfl | rfl | rfl | rfl <;> rfl

set_option maxRecDepth 100000 in
set_option maxHeartbeats 2000000 in
theorem build_any (w : World) (A : Option Addr) (n c : Nat) (l : List StmC) (hn : n = l.length) (hl : l.length ≤ 1000000) (h : Rd w w.heap.size A (cellsOf l)) (hz : ∀ x ∈ l, x.s.name.size ≤ maxLen) :
    Calls Try.prog 17 #[.slice A n c] w (BuildDone w (stms l)) := by
  subst hn
  have H := Lib.hid h
  have HZ := Lib.hid hz
  clear h hz
  have hmm := @run_makeMap Try.prog
  go_enter Try.func17, Try.ntmps17
  go_wp2
  have hMk : Hid (Making w (((w.alloc (Obj.cells #[Value.int IntKind.i64 0, Value.int IntKind.i64 0, Value.int IntKind.i64 0] 29)).alloc (Obj.map #[] 0)).alloc (Obj.cells #[Value.map (some (w.heap.size + 1)), Value.slice none 0 0, Value.slice none 0 0, Value.slice none 0 0, Value.slice none 0 0, Value.slice none 0 0, Value.slice none 0 0, Value.slice none 0 0, Value.slice none 0 0, Value.slice none 0 0, Value.int IntKind.i64 0, Value.int IntKind.i64 0, Value.int IntKind.i64 0, Value.int IntKind.i64 0, Value.int IntKind.i64 0, Value.int IntKind.i64 0, Value.int IntKind.i64 0, Value.int IntKind.i64 0, Value.int IntKind.i64 0] 102)) (w.heap.size + 1 + 1) (w.heap.size + 1) []) := by
    refine ⟨fun _ => .slice none 0 0, ⟨?_, ?_, ?_, ?_, by simp, fun x hx => by simp at hx, Nm.fine_nil⟩, ?_, (((Chg.refl _ w).alloc _).alloc _).alloc _, ?_⟩
    · have := new_table ((w.alloc (Obj.cells #[Value.int IntKind.i64 0, Value.int IntKind.i64 0, Value.int IntKind.i64 0] 29)).alloc (Obj.map #[] 0)) (w.heap.size + 1)
      simpa [Nm.ahead_nil] using this
    · have := (MapAt.new (P := Try.prog) (k := 9) (w.alloc (Obj.cells #[Value.int IntKind.i64 0, Value.int IntKind.i64 0, Value.int IntKind.i64 0] 29))).alloc (Obj.cells #[Value.map (some (w.heap.size + 1)), Value.slice none 0 0, Value.slice none 0 0, Value.slice none 0 0, Value.slice none 0 0, Value.slice none 0 0, Value.slice none 0 0, Value.slice none 0 0, Value.slice none 0 0, Value.slice none 0 0, Value.int IntKind.i64 0, Value.int IntKind.i64 0, Value.int IntKind.i64 0, Value.int IntKind.i64 0, Value.int IntKind.i64 0, Value.int IntKind.i64 0, Value.int IntKind.i64 0, Value.int IntKind.i64 0, Value.int IntKind.i64 0] 102)
      simpa [Nm.ents_nil] using this
    · intro k _
      exact World.ownsRow_nil _ _ _ _
    · intro j k g _ _ _ hg
      simp [Value.ownBlock] at hg
    · rintro k (e | e | ⟨j, _, e⟩)
      · subst e; refine ⟨by omega, by simp⟩
      · subst e; refine ⟨by omega, by simp⟩
      · simp [Value.ownBlock] at e
    · exact ((Blk.new w 29 #[.int .i64 0, .int .i64 0, .int .i64 0]).alloc _).alloc _
  obtain ⟨W0, hW0⟩ : ∃ W0, W0 = (((w.alloc (Obj.cells #[Value.int IntKind.i64 0, Value.int IntKind.i64 0, Value.int IntKind.i64 0] 29)).alloc (Obj.map #[] 0)).alloc (Obj.cells #[Value.map (some (w.heap.size + 1)), Value.slice none 0 0, Value.slice none 0 0, Value.slice none 0 0, Value.slice none 0 0, Value.slice none 0 0, Value.slice none 0 0, Value.slice none 0 0, Value.slice none 0 0, Value.slice none 0 0, Value.int IntKind.i64 0, Value.int IntKind.i64 0, Value.int IntKind.i64 0, Value.int IntKind.i64 0, Value.int IntKind.i64 0, Value.int IntKind.i64 0, Value.int IntKind.i64 0, Value.int IntKind.i64 0, Value.int IntKind.i64 0] 102)) := ⟨_, rfl⟩
  rw [← hW0] at hMk ⊢
  obtain ⟨b, hb⟩ : ∃ b, b = w.heap.size + 1 + 1 := ⟨_, rfl⟩
  obtain ⟨mb, hmb⟩ : ∃ mb, mb = w.heap.size + 1 := ⟨_, rfl⟩
  rw [← hb, ← hmb] at hMk
  rw [← hb, ← hmb]
  clear hW0 hb hmb hmm
  go_loopw [13] (fun i wr => ∃ j : Nat, j ≤ l.length ∧ i = .int .i64 j ∧ Hid (Making w wr b mb ((stms l).take j))) (fun i _ => l.length - (intOf i).toNat)
  case atStart => exact ⟨0, Nat.zero_le _, rfl, hMk⟩
  case round =>
    obtain ⟨j, hj, rfl, hM⟩ := hrel
    clear hMk
    obtain ⟨nv, hT, hF, hC, hR⟩ := hM.out
    have hsl : (stms l).length = l.length := by simp [stms]
    by_cases hlt : j < l.length
    · obtain ⟨xb, o, hA, had, hc⟩ := stm_at (H.out.chg hC (Nat.le_refl _) (fun _ h => h.elim)) hlt
      subst hA
      have hzx := Lib.hid (HZ.out _ (List.getElem_mem hlt))
      have hst := Lib.hid (take_map_succ l j hlt)
      have hget : Hid ((stms l)[j]? = some l[j].s) := by show (stms l)[j]? = some l[j].s; simp [stms, hlt]
      obtain ⟨x, hx⟩ : ∃ x, x = l[j] := ⟨_, rfl⟩
      rw [← hx] at hc hzx hst hget
      obtain ⟨c0, c1, c2, c3, c4, c5, c6, c7, c8, c9, c10, c11⟩ := stm_cells hc
      have hwl : xb < wr.heap.size := by have := hC.size; omega
      have HT := Lib.hid hT
      have HF := Lib.hid hF
      have HC := Lib.hid hC
      have HR := Lib.hid hR
      clear hc had hx hsl hT hF hC hR
      go_wp2_with fail
      obtain ⟨w1, hw1⟩ : ∃ w1, w1 = wr.alloc (.cells #[.int .i64 x.s.kind, .string x.s.name, .int .i64 x.s.line, .int .i64 x.s.col, .int .i64 x.ini, .slice x.nA x.nn x.nc, .string x.role, .string x.stage, .string x.ev, .int .i64 x.tms, .slice x.fA x.fn x.fc, .bool x.fin] 35) := ⟨_, rfl⟩
      obtain ⟨g, hg⟩ : ∃ g, g = wr.heap.size := ⟨_, rfl⟩
      rw [← hw1, ← hg]
      have X1 : Hid (Blk w1 g 35 #[.int .i64 x.s.kind, .string x.s.name, .int .i64 x.s.line, .int .i64 x.s.col, .int .i64 x.ini, .slice x.nA x.nn x.nc, .string x.role, .string x.stage, .string x.ev, .int .i64 x.tms, .slice x.fA x.fn x.fc, .bool x.fin]) := by rw [hw1, hg]; exact Blk.new _ _ _
      have CC : Hid (Chg (fun _ => False) wr w1) := by rw [hw1]; exact (Chg.refl _ _).alloc _
      have C1 := Lib.hid (Chg.trans HC.out CC.out (fun _ _ h => h))
      have R1 := Lib.hid (Blk.chg HR.out CC.out (fun h => h))
      have T1 := Lib.hid (HT.out.quiet CC.out)
      have F1 : Hid (∀ k, TFoot b mb nv k → w.heap.size < k ∧ k < w1.heap.size) := fun k hk => by have := HF.out k hk; have := CC.out.size; omega
      clear hw1 hg c0 c1 c2 c3 c4 c5 c6 c7 c8 c9 c10 c11 hwl HT HF HC HR CC hM
      refine (add_x w1 b mb nv ((stms l).take j) x T1.out hzx.out (by have : ((stms l).take j).length ≤ j := List.length_take_le _ _; omega)).mono ?_
      rintro e w2 ⟨rfl, hD⟩
      obtain ⟨bd, hbd⟩ : ∃ bd, bd = Nm.bad ((stms l).take j) x.s := ⟨_, rfl⟩
      have HD := Lib.hid hD
      have HB := Lib.hid hbd
      rw [← hbd]
      clear hD hbd
      by_cases hz : bd = 0
      · subst hz
        obtain ⟨nv', hT', hC', hF'⟩ := HD.out.2 HB.out.symm
        have hg2 : ¬ TFoot b mb nv w.heap.size := fun hk => by have := F1.out _ hk; omega
        have hRR := Lib.hid (Blk.chg R1.out hC' hg2)
        have HN : Hid (Making w w2 b mb ((stms l).take (j + 1))) := by
          refine ⟨nv', by rw [hst.out]; exact hT', fun k hk => ?_, Chg.trans C1.out hC' (fun i hi hk => by have := F1.out i hk; omega), hRR.out⟩
          have hs1 := C1.out.size
          have hs2 := hC'.size
          have hr := Blk.lt R1.out
          rcases hF' k hk with h | h
          · have := F1.out k h; omega
          · omega
        clear hT' hC' hF' hg2
        go_wp2
        go_roundw
        case rel => exact ⟨j + 1, by omega, by go_num, HN⟩
        case measure => simp [intOf]; omega
      · have hC2 := HD.out.1 (by rw [← HB.out]; exact hz)
        have hC3 := Lib.hid (Chg.trans C1.out hC2 (fun _ _ h => h))
        have hX2 := Blk.chg X1.out hC2 (fun h => h)
        have hR2 := Lib.hid (Blk.chg R1.out hC2 (fun h => h))
        obtain ⟨y0, y1, y2, y3, _⟩ := stm_blk hX2
        obtain ⟨d0, d1, d2, g0, g1, g2, hwlt⟩ := res0_cells hR2.out
        have hne : w.heap.size ≠ g := fun e => (Blk.ne_ hR2.out hX2 (by decide)) e
        have hzb : (bd != 0) = true := by simpa using hz
        have hchk : Hid (Nm.check (stms l) = (bd, x.s.line, x.s.col)) := by
          have h := Nm.check_bad' hget.out T1.out.fine (by rw [← HB.out]; exact hz)
          rw [← HB.out] at h
          exact h
        have hz := Lib.hid hz
        clear hC2 hX2
        go_wp2
        go_region
        go_wp2
        refine fault_ret2 (q := 2) (p := 3) rfl (g := w.heap.size) rfl (by exact res0_set hR2.out bd x.s.line x.s.col) rfl ⟨.pointer none, ?_, .inl ⟨rfl, by rw [hchk.out]; exact hz.out⟩, ?_⟩
        · rw [hchk.out]; rfl
        · exact (chg_set3 hC3.out (Nat.le_refl _) _ _ _).drew
    · obtain rfl : j = l.length := by omega
      have htk : (stms l).take l.length = stms l := List.take_of_length_le (by omega)
      rw [htk] at hT
      obtain ⟨d0, d1, d2, g0, g1, g2, hwlt⟩ := res0_cells hR
      have hchk : Hid (Nm.check (stms l) = (0, 0, 0)) := Nm.check_fine hT.fine
      have HT := Lib.hid hT
      have HF := Lib.hid hF
      have HC := Lib.hid hC
      have HR := Lib.hid hR
      clear hT hF hC hR htk hsl hM
      go_wp2
      refine fault_ret2 (q := 2) (p := 3) rfl (g := w.heap.size) rfl (by exact res0_set HR.out 0 0 0) rfl ⟨.pointer (some ⟨b, 0, none⟩), ?_, .inr ⟨hchk.out, b, mb, nv, rfl, ?_, ?_⟩, ?_⟩
      · rw [hchk.out]; rfl
      · refine HT.out.chg (S := fun k => k = w.heap.size) ?_ (fun k hk e => by have := HF.out k hk; omega)
        exact ((Chg.refl (fun k => k = w.heap.size) wr).setCell (p := ⟨w.heap.size, 0, none⟩) (.inl rfl) _).setCell (p := ⟨w.heap.size, 1, none⟩) (.inl rfl) _ |>.setCell (p := ⟨w.heap.size, 2, none⟩) (.inl rfl) _
      · intro k hk
        have := HF.out k hk; omega
      · exact chg_set3 HC.out (Nat.le_refl _) _ _ _
end Go.Proofs.Ytpppgnphblbbcaa
