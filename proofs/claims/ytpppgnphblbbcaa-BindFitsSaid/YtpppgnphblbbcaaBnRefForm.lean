/- The walks of the reference's Formula and Same. -/
import Derived.Test.YtpppgnphblbbcaaBnRef
namespace Go.Proofs.Ytpppgnphblbbcaa
open Go.RowKit

structure FormingR (w : World) (l : List Nm.Stm) (f : List Nm.Item) (j : Nat) (v : Value) (wr : World) : Prop where
  res : Res0 wr w.heap.size
  chg : Chg (fun _ => False) w wr
  own : wr.ownsRow w.heap.size 77 7 v j ((f.take j).flatMap (instC l))
  good : ∀ (i : Nat) x, i < j → f[i]? = some x → Nm.instE l x = 0

set_option maxRecDepth 100000 in
set_option maxHeartbeats 2000000 in
theorem refFormula_any (w : World) (L : Option Addr) (ln lc : Nat) (l : List StmC) (A : Option Addr) (n c : Nat) (f : List Nm.Item) (hln : ln = l.length) (hll : l.length ≤ 1000000) (hrl : Rd w w.heap.size L (cellsOf l)) (hn : n = f.length) (hl : f.length ≤ 1000) (hr : Rd w w.heap.size A (cellsI f)) :
    Calls Try.prog 28 #[.slice L ln lc, .slice A n c] w fun e w' => ∃ v, e = .returned (.tuple #[v, faultV (Nm.fault (stms l) f)]) ∧ Formed w w' (stms l) f v ∧ Chg (fun _ => False) w w' := by
  subst hn
  subst hln
  have HR := Lib.hid hr
  have HL := Lib.hid hrl
  clear hr hrl
  obtain ⟨i77, hi77, hz0, hz1, hz2⟩ := info_parts inst_info
  go_enter Try.func28, Try.ntmps28
  go_wp2
  have hF : Hid (FormingR w (stms l) f 0 (.slice none 0 0) (w.alloc (.cells #[.int .i64 0, .int .i64 0, .int .i64 0] 29))) :=
    ⟨Blk.new w 29 #[.int .i64 0, .int .i64 0, .int .i64 0], (Chg.refl _ w).alloc _, World.ownsRow_nil _ _ _ _, fun i x hi => by omega⟩
  obtain ⟨w0, hw0⟩ : ∃ w0, w0 = w.alloc (.cells #[.int .i64 0, .int .i64 0, .int .i64 0] 29) := ⟨_, rfl⟩
  rw [← hw0] at hF ⊢
  clear hw0
  go_loopw [7, 6] (fun i v wr => ∃ j : Nat, j ≤ f.length ∧ i = .int .i64 j ∧ Hid (FormingR w (stms l) f j v wr)) (fun i _ _ => f.length - (intOf i).toNat)
  case atStart => exact ⟨0, Nat.zero_le _, rfl, hF⟩
  case round =>
    obtain ⟨j, hj, rfl, hM⟩ := hrel
    clear hF
    by_cases hlt : j < f.length
    · obtain ⟨x, hx⟩ : ∃ x, f[j]? = some x := ⟨_, List.getElem?_eq_getElem hlt⟩
      obtain ⟨xb, o, hA, hxb, c0, c1, c2, c3, c4, c5, c6, c7, c8⟩ := item_at (HR.out.chg hM.out.chg (Nat.le_refl _) (fun _ h => h.elim)) hx
      subst hA
      have HX := Lib.hid hx
      clear hx
      go_wp2_with fail
      refine (refInst_any _ L l.length lc l x rfl hll ((HL.out.chg hM.out.chg (Nat.le_refl _) (fun _ h => h.elim)).more hM.out.chg.size)).mono ?_
      rintro e w2 ⟨iv, rfl, hiv, hc⟩
      obtain ⟨ie, hie⟩ : ∃ ie, ie = Nm.instE (stms l) x := ⟨_, rfl⟩
      have HIE := Lib.hid hie
      rw [← hie] at hiv ⊢
      have C2 := Lib.hid (Chg.trans hM.out.chg hc (fun _ _ h => h))
      have R2 := Lib.hid (hM.out.res.chg hc (fun h => h))
      have O2 := Lib.hid (own_chg hM.out.own hc (fun _ _ h => h))
      have G2 := Lib.hid hM.out.good
      have XC := item_at (HR.out.chg C2.out (Nat.le_refl _) (fun _ h => h.elim)) HX.out
      have HIv := Lib.hid hiv
      clear hM hie hc c0 c1 c2 c3 c4 c5 c6 c7 c8 hiv
      obtain ⟨xb', o', hA', _, c0, c1, c2, c3, c4, c5, c6, c7, c8⟩ := XC
      injection hA' with hA'
      injection hA' with hA1 hA2 _
      subst hA1; subst hA2
      have hj2 : j < 1000 := by omega
      have hsz := C2.out.size
      unfold instA
      dsimp only
      have R3 := Lib.hid (R2.out.alloc (.cells #[.int .i64 iv.op, .int .i64 iv.la, .int .i64 iv.lnum, .int .i64 iv.ra, .int .i64 iv.rnum, .int .i64 iv.n, .int .i64 iv.user] 77))
      have C3 := Lib.hid (C2.out.alloc (.cells #[.int .i64 iv.op, .int .i64 iv.la, .int .i64 iv.lnum, .int .i64 iv.ra, .int .i64 iv.rnum, .int .i64 iv.n, .int .i64 iv.user] 77))
      have O3 := Lib.hid (O2.out.alloc (.cells #[.int .i64 iv.op, .int .i64 iv.la, .int .i64 iv.lnum, .int .i64 iv.ra, .int .i64 iv.rnum, .int .i64 iv.n, .int .i64 iv.user] 77))
      have B3 := Blk.new w2 77 #[.int .i64 iv.op, .int .i64 iv.la, .int .i64 iv.lnum, .int .i64 iv.ra, .int .i64 iv.rnum, .int .i64 iv.n, .int .i64 iv.user]
      obtain ⟨d0, d1, d2, g0, g1, g2, hwlt⟩ := res0_cells R3.out
      obtain ⟨e0, e1, e2, e3, e4, e5, e6⟩ := inst_blk B3
      have x7 : (w2.alloc (.cells #[.int .i64 iv.op, .int .i64 iv.la, .int .i64 iv.lnum, .int .i64 iv.ra, .int .i64 iv.rnum, .int .i64 iv.n, .int .i64 iv.user] 77)).cell? ⟨xb, o + j * 9 + 7, none⟩ = some (.int .i64 x.line) := by rw [← c7]; exact ((Chg.refl (fun _ => False) w2).alloc _).cell (show xb < w2.heap.size by omega) (fun h => h)
      have x8 : (w2.alloc (.cells #[.int .i64 iv.op, .int .i64 iv.la, .int .i64 iv.lnum, .int .i64 iv.ra, .int .i64 iv.rnum, .int .i64 iv.n, .int .i64 iv.user] 77)).cell? ⟨xb, o + j * 9 + 8, none⟩ = some (.int .i64 x.col) := by rw [← c8]; exact ((Chg.refl (fun _ => False) w2).alloc _).cell (show xb < w2.heap.size by omega) (fun h => h)
      clear B3 R2 C2 O2 c0 c1 c2 c3 c4 c5 c6 c7 c8
      by_cases hie0 : ie = 0
      · subst hie0
        have HIV : Hid (instC (stms l) x = [.int .i64 iv.op, .int .i64 iv.la, .int .i64 iv.lnum, .int .i64 iv.ra, .int .i64 iv.rnum, .int .i64 iv.n, .int .i64 iv.user]) := by show _ = _; rw [HIv.out rfl]; rfl
        have hsz3 := C3.out.size
        go_wp2_with (at_builtin; refine wpList_append_lies _ rfl (.tmp 34) (.tmp 36) 49 rfl w.heap.size 77 i77 _ 7 56 Try.underlying49 hi77 hz0 hz1 hz2 rfl (by omega) u6 j ((f.take j).flatMap (instC (stms l))) rfl (by exact World.ownsRow.alloc (w := (w2.alloc (.cells #[.int .i64 iv.op, .int .i64 iv.la, .int .i64 iv.lnum, .int .i64 iv.ra, .int .i64 iv.rnum, .int .i64 iv.n, .int .i64 iv.user] 77))) O3.out _) ⟨w2.heap.size + 1, 0, none⟩ 1 1 (instC (stms l) x) rfl rfl (by rw [HIV.out]; exact all_new (blk_new2 w2 _ 77 #[.int .i64 iv.op, .int .i64 iv.la, .int .i64 iv.lnum, .int .i64 iv.ra, .int .i64 iv.rnum, .int .i64 iv.n, .int .i64 iv.user])) (by rw [HIV.out]; intro u hu; simp at hu; rcases hu with rfl | rfl | rfl | rfl | rfl | rfl | rfl <;> rfl) (by omega) (by unfold maxLen; omega) (by omega) (by simp; omega) (w2.heap.size + 1 + 1) (by simp) ?_; intro g cap w4 hown4 hg4 hat4 hlt4; have C4 : Hid (Chg (fun _ => False) w w4) := (Chg.trans C3.out (Chg.grown (S := fun k => Value.ownBlock u6 = some k) ((Chg.refl _ (w2.alloc (.cells #[.int .i64 iv.op, .int .i64 iv.la, .int .i64 iv.lnum, .int .i64 iv.ra, .int .i64 iv.rnum, .int .i64 iv.n, .int .i64 iv.user] 77))).alloc _) hg4 (fun k hk => .inl hk)) (fun i hi e => by have := (O3.out.lt i e).1; omega)); have HO4 := Lib.hid hown4; have R4 : Hid (Res0 w4 w.heap.size) := ((R3.out.alloc _).grown hg4 (Ne.symm (own_blk_ne (w := (w2.alloc (.cells #[.int .i64 iv.op, .int .i64 iv.la, .int .i64 iv.lnum, .int .i64 iv.ra, .int .i64 iv.rnum, .int .i64 iv.n, .int .i64 iv.user] 77))) O3.out R3.out (by decide)))); clear hown4 hg4 hat4 hlt4)
        go_roundw
        case rel =>
          refine ⟨j + 1, by omega, by go_num, ?_⟩
          have htk : f.take (j + 1) = f.take j ++ [x] := by
            obtain ⟨h1, h2⟩ := List.getElem?_eq_some_iff.1 HX.out
            rw [List.take_succ_eq_append_getElem h1, h2]
          refine ⟨R4.out, C4.out, ?_, fun i y hi hy => ?_⟩
          · rw [htk, List.flatMap_append]
            simpa using HO4.out
          · rcases Nat.lt_or_ge i j with h | h
            · exact G2.out i y h hy
            · obtain rfl : i = j := by omega
              rw [HX.out] at hy
              injection hy with hy
              subst hy
              exact HIE.out.symm
        case measure => simp [intOf]; omega
      · have hkz : (ie != 0) = true := by simpa using hie0
        have hie0 := Lib.hid hie0
        have HFA : Hid (Nm.fault (stms l) f = (ie, x.line, x.col)) := by
          have h := Nm.fault_at (l := stms l) (f := f) (i := j) (x := x) G2.out HX.out (by rw [← HIE.out]; exact hie0.out)
          rw [← HIE.out] at h
          exact h
        go_wp2
        go_region
        go_wp2
        refine fault_ret2 (q := 4) (p := 5) rfl (g := w.heap.size) rfl (by exact res0_set R3.out ie x.line x.col) rfl ⟨.slice none 0 0, ?_, .inl ⟨by rw [HFA.out]; exact hie0.out, rfl⟩, ?_⟩
        · rw [HFA.out]; rfl
        · exact (chg_set3 C3.out (Nat.le_refl _) _ _ _).drew
    · obtain rfl : j = f.length := by omega
      have htk : f.take f.length = f := List.take_of_length_le (Nat.le_refl _)
      obtain ⟨hR, hC, hO, hG⟩ := hM.out
      rw [htk] at hO
      obtain ⟨d0, d1, d2, g0, g1, g2, hwlt⟩ := res0_cells hR
      have HFA : Hid (Nm.fault (stms l) f = (0, 0, 0)) := Nm.fault_fine fun i x hx => hG i x (List.getElem?_eq_some_iff.1 hx).1 hx
      have HO := Lib.hid hO
      have HC := Lib.hid hC
      have HRR := Lib.hid hR
      clear hR hC hO hG htk hM
      go_wp2
      refine fault_ret2 (q := 4) (p := 5) rfl (g := w.heap.size) rfl (by exact res0_set HRR.out 0 0 0) rfl ⟨u6, ?_, .inr ⟨HFA.out, ?_⟩, ?_⟩
      · rw [HFA.out]; rfl
      · have ne : ∀ g, (Value.ownBlock u6) = some g → g ≠ w.heap.size := fun g hg e => own_blk_ne HO.out HRR.out (by decide) (e ▸ hg)
        exact own_set (own_set (own_set HO.out (p := ⟨w.heap.size, 0, none⟩) (fun h => ne _ h rfl) _) (p := ⟨w.heap.size, 1, none⟩) (fun h => ne _ h rfl) _) (p := ⟨w.heap.size, 2, none⟩) (fun h => ne _ h rfl) _
      · exact chg_set3 HC.out (Nat.le_refl _) _ _ _
end Go.Proofs.Ytpppgnphblbbcaa
