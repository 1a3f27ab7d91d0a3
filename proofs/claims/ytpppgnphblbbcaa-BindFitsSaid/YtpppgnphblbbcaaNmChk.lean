/- The walk of the reference's Check and Need. -/
import Derived.Test.YtpppgnphblbbcaaNmRef
import Derived.Test.YtpppgnphblbbcaaRes
import Derived.Deep.DeepCutAuto
namespace Go.Proofs.Ytpppgnphblbbcaa
open Go.RowKit

/-- The result's variable. -/
def Res0 (w : World) (g : Nat) : Prop := Blk w g 29 #[.int .i64 0, .int .i64 0, .int .i64 0]
theorem res0_cells {w : World} {g : Nat} (h : Res0 w g) : w.cell? ⟨g, 0, none⟩ = some (.int .i64 0) ∧ w.cell? ⟨g, 1, none⟩ = some (.int .i64 0) ∧ w.cell? ⟨g, 2, none⟩ = some (.int .i64 0) ∧
    w.frozen? ⟨g, 0, none⟩ = false ∧ w.frozen? ⟨g, 1, none⟩ = false ∧ w.frozen? ⟨g, 2, none⟩ = false ∧ g < w.heap.size :=
  ⟨by rw [Blk.cell h]; rfl, by rw [Blk.cell h]; rfl, by rw [Blk.cell h]; rfl, Blk.frozen h 0, Blk.frozen h 1, Blk.frozen h 2, Blk.lt h⟩
theorem res0_set {w : World} {g : Nat} (h : Res0 w g) (e ln cl : Int) : Blk (((w.setCell ⟨g, 0, none⟩ (.int .i64 e)).setCell ⟨g, 1, none⟩ (.int .i64 ln)).setCell ⟨g, 2, none⟩ (.int .i64 cl)) g 29 #[.int .i64 e, .int .i64 ln, .int .i64 cl] := by
  have := ((Blk.set h 0 (.int .i64 e)).set 1 (.int .i64 ln)).set 2 (.int .i64 cl)
  simpa using this
theorem chg_set3 {w0 w : World} {g : Nat} (h : Chg (fun _ => False) w0 w) (hg : w0.heap.size ≤ g) (a b c : Value) : Chg (fun _ => False) w0 (((w.setCell ⟨g, 0, none⟩ a).setCell ⟨g, 1, none⟩ b).setCell ⟨g, 2, none⟩ c) :=
  ((h.setCell (p := ⟨g, 0, none⟩) (.inr hg) a).setCell (p := ⟨g, 1, none⟩) (.inr hg) b).setCell (p := ⟨g, 2, none⟩) (.inr hg) c

theorem stm_blk {w : World} {g : Nat} {kd ln cl ini tm : Int} {nm ro st ev : ByteArray} {nA fA : Option Addr} {nn nc fn fc : Nat} {fi : Bool}
    (h : Blk w g 35 #[.int .i64 kd, .string nm, .int .i64 ln, .int .i64 cl, .int .i64 ini, .slice nA nn nc, .string ro, .string st, .string ev, .int .i64 tm, .slice fA fn fc, .bool fi]) :
    w.cell? ⟨g, 0, none⟩ = some (.int .i64 kd) ∧ w.cell? ⟨g, 1, none⟩ = some (.string nm) ∧ w.cell? ⟨g, 2, none⟩ = some (.int .i64 ln) ∧ w.cell? ⟨g, 3, none⟩ = some (.int .i64 cl) ∧ w.cell? ⟨g, 4, none⟩ = some (.int .i64 ini) ∧
    w.cell? ⟨g, 5, none⟩ = some (.slice nA nn nc) ∧ w.cell? ⟨g, 6, none⟩ = some (.string ro) ∧ w.cell? ⟨g, 7, none⟩ = some (.string st) ∧ w.cell? ⟨g, 8, none⟩ = some (.string ev) ∧ w.cell? ⟨g, 9, none⟩ = some (.int .i64 tm) ∧
    w.cell? ⟨g, 10, none⟩ = some (.slice fA fn fc) ∧ w.cell? ⟨g, 11, none⟩ = some (.bool fi) := by
  refine ⟨?_, ?_, ?_, ?_, ?_, ?_, ?_, ?_, ?_, ?_, ?_, ?_⟩ <;> (rw [h.cell]; rfl)

set_option maxHeartbeats 2000000 in
theorem refCheck_any (w : World) (A : Option Addr) (n c : Nat) (l : List StmC) (hn : n = l.length) (hl : l.length ≤ 1000000) (h : Rd w w.heap.size A (cellsOf l)) :
    Calls Try.prog 21 #[.slice A n c] w fun e w' => e = .returned (faultV (Nm.check (stms l))) ∧ Chg (fun _ => False) w w' := by
  subst hn
  have H := Lib.hid h
  clear h
  go_enter Try.func21, Try.ntmps21
  go_wp2
  go_loopw [3] (fun i wr => ∃ j : Nat, j ≤ l.length ∧ i = .int .i64 j ∧ Hid (Nm.Fine ((stms l).take j)) ∧ Hid (Chg (fun _ => False) w wr) ∧ Hid (Res0 wr w.heap.size)) (fun i _ => l.length - (intOf i).toNat)
  case atStart => exact ⟨0, Nat.zero_le _, rfl, Nm.fine_nil, (Chg.refl _ _).alloc _, Blk.new _ _ _⟩
  case round =>
    obtain ⟨j, hj, rfl, hF, hC, hB⟩ := hrel
    have hsl : (stms l).length = l.length := by simp [stms]
    by_cases hlt : j < l.length
    · have HR := Lib.hid (H.out.chg hC.out (Nat.le_refl _) (fun _ h => h.elim))
      obtain ⟨b, o, hA, had, hc⟩ := stm_at HR.out hlt
      subst hA
      obtain ⟨x, hx⟩ : ∃ x, x = l[j] := ⟨_, rfl⟩
      rw [← hx] at hc
      obtain ⟨c0, c1, c2, c3, c4, c5, c6, c7, c8, c9, c10, c11⟩ := stm_cells hc
      have hwl : b < wr.heap.size := by have := hC.out.size; omega
      have hget : Hid ((stms l)[j]? = some x.s) := by
        show (stms l)[j]? = some x.s
        rw [hx]; simp [stms, hlt]
      clear hc had hx hsl
      obtain ⟨⟨kd, nm, ln, cl⟩, ini, nA, nn, nc, ro, st, ev, tm, fA, fn, fc, fi⟩ := x
      dsimp only at c0 c1 c2 c3 c4 c5 c6 c7 c8 c9 c10 c11 hget
      by_cases hk : kd < 1 ∨ 8 < kd
      · obtain ⟨d0, d1, d2, g0, g1, g2, hwlt⟩ := res0_cells hB.out
        have hchk : Hid (Nm.check (stms l) = (8, ln, cl)) := by
          have hbd : Nm.bad ((stms l).take j) ⟨kd, nm, ln, cl⟩ = 8 := Nm.bad_kind hk
          have h := Nm.check_bad' hget.out hF.out (by rw [hbd]; decide)
          rw [hbd] at h
          exact h
        rcases hk with hk1 | hk2
        · go_wp2
          refine fault_ret rfl (g := w.heap.size) rfl ((res0_set hB.out 8 ln cl).alloc _) rfl ⟨by rw [hchk.out], (chg_set3 hC.out (Nat.le_refl _) _ _ _).alloc _⟩
        · have hk3 : decide (kd < 1) = false := by simp; omega
          go_wp2
          refine fault_ret rfl (g := w.heap.size) rfl ((res0_set hB.out 8 ln cl).alloc _) rfl ⟨by rw [hchk.out], (chg_set3 hC.out (Nat.le_refl _) _ _ _).alloc _⟩
      · have hk1 : decide (kd < 1) = false := by simp; omega
        have hk2 : decide (8 < kd) = false := by simp; omega
        have hkn : Hid (Nm.known kd = true) := by show Nm.known kd = true; unfold Nm.known; simp; omega
        go_wp2
        obtain ⟨w1, hw1⟩ : ∃ w1, w1 = wr.alloc (.cells #[.int .i64 kd, .string nm, .int .i64 ln, .int .i64 cl, .int .i64 ini, .slice nA nn nc, .string ro, .string st, .string ev, .int .i64 tm, .slice fA fn fc, .bool fi] 35) := ⟨_, rfl⟩
        obtain ⟨xb, hxb⟩ : ∃ xb, xb = wr.heap.size := ⟨_, rfl⟩
        rw [← hw1, ← hxb]
        have X1 : Blk w1 xb 35 #[.int .i64 kd, .string nm, .int .i64 ln, .int .i64 cl, .int .i64 ini, .slice nA nn nc, .string ro, .string st, .string ev, .int .i64 tm, .slice fA fn fc, .bool fi] := by rw [hw1, hxb]; exact Blk.new _ _ _
        have C1 : Hid (Chg (fun _ => False) w w1) := by rw [hw1]; exact hC.out.alloc _
        have R1 : Hid (Res0 w1 w.heap.size) := by rw [hw1]; exact Blk.alloc hB.out _
        have L1 := Lib.hid (H.out.chg C1.out (Nat.le_refl _) (fun _ h => h.elim))
        obtain ⟨x0, x1, _⟩ := stm_blk X1
        have XB := Lib.hid X1
        clear hw1 hxb X1 c0 c1 c2 c3 c4 c5 c6 c7 c8 c9 c10 c11 hC hB HR hwl
        go_cut [32] (fun s w3 => s = .bool (decide (Nm.most kd ≤ (Nm.ahead ((stms l).take j) kd : Int))) ∧ Hid (Chg (fun _ => False) w1 w3))
        case first =>
          go_region_with ((first | (go_at_call 24; refine (refAhead_any _ w.heap.size _ _ _ l j kd (by omega) rfl hl (by exact L1.out)).mono ?_; rintro e w' ⟨rfl, rfl⟩) | (go_at_call 55; refine (refMost_any _ kd hkn.out).mono ?_; rintro e w3 ⟨rfl, hC3⟩)))
          all_goals (go_wp2_with fail; go_meet; exact ⟨rfl, Chg.trans ((Chg.refl _ w1).drew) hC3 (fun _ _ h => h)⟩)
        case rest =>
          obtain ⟨rfl, hC3⟩ := hcut
          have hX := Blk.chg XB.out hC3.out (fun h => h)
          have hR := Blk.chg R1.out hC3.out (fun h => h)
          obtain ⟨d0, d1, d2, g0, g1, g2, hwlt⟩ := res0_cells hR
          obtain ⟨y0, y1, y2, y3, y4, y5, y6, y7, y8, y9, y10, y11⟩ := stm_blk hX
          have hxlt := hX.lt
          have HX := Lib.hid hX
          have HR := Lib.hid hR
          have HC := Lib.hid (Chg.trans C1.out hC3.out (fun _ _ h => h))
          have HL := Lib.hid (H.out.chg HC.out (Nat.le_refl _) (fun _ h => h.elim))
          clear hX hR hC3 C1 R1 L1 XB x0 x1
          by_cases hm : Nm.most kd ≤ (Nm.ahead ((stms l).take j) kd : Int)
          · have hmd : decide (Nm.most kd ≤ (Nm.ahead ((stms l).take j) kd : Int)) = true := by simpa using hm
            have hchk : Hid (Nm.check (stms l) = (3, ln, cl)) := by
              have hbd : Nm.bad ((stms l).take j) ⟨kd, nm, ln, cl⟩ = 3 := Nm.bad_long hkn.out hm
              have h := Nm.check_bad' hget.out hF.out (by rw [hbd]; decide)
              rw [hbd] at h
              exact h
            go_wp2
            refine fault_ret rfl (g := w.heap.size) rfl (res0_set HR.out 3 ln cl) rfl ⟨by rw [hchk.out], chg_set3 HC.out (Nat.le_refl _) _ _ _⟩
          · have hmd : decide (Nm.most kd ≤ (Nm.ahead ((stms l).take j) kd : Int)) = false := by simpa using hm
            have hm' := Lib.hid hm
            go_wp2_with fail
            refine (refNamed_x wc ⟨⟨kd, nm, ln, cl⟩, ini, nA, nn, nc, ro, st, ev, tm, fA, fn, fc, fi⟩).mono ?_
            rintro e w4 ⟨rfl, hC4⟩
            dsimp only
            have z1 : w4.cell? ⟨xb, 1, none⟩ = some (.string nm) := (hC4.cell (p := ⟨xb, 1, none⟩) hxlt (fun h => h)).trans y1
            have HC4 := Lib.hid (Chg.trans HC.out hC4 (fun _ _ h => h))
            have HR4 := Lib.hid (Blk.chg HR.out hC4 (fun h => h))
            have HX4 := Lib.hid (Blk.chg HX.out hC4 (fun h => h))
            have HL4 := Lib.hid (H.out.chg HC4.out (Nat.le_refl _) (fun _ h => h.elim))
            clear d0 d1 d2 g0 g1 g2 y0 y1 y2 y3 y4 y5 y6 y7 y8 y9 y10 y11 HX HR HC HL hC4 hwlt
            cases hn : Nm.isNamed kd with
            | false =>
              have hF2 : Hid (Nm.Fine ((stms l).take (j + 1))) := Nm.fine_next hget.out hF.out (Nm.bad_none hkn.out (by have := hm'.out; dsimp only; omega) (fun h => by rw [hn] at h; cases h))
              clear hn
              go_wp2
              go_roundw
              case rel => exact ⟨j + 1, by omega, by go_num, hF2, HC4, HR4⟩
              case measure => simp [intOf]; omega
            | true =>
              have hn' := Lib.hid hn
              clear hn
              go_wp2_with fail
              have hlen4 := HC4.out.size
              refine (refFind_any w4 _ l.length c l j nm (by omega) rfl hl (HL4.out.more (by omega))).mono ?_
              rintro e w5 ⟨rfl, hC5⟩
              have HC5 := Lib.hid (Chg.trans HC4.out hC5 (fun _ _ h => h))
              have HR5 := Lib.hid (Blk.chg HR4.out hC5 (fun h => h))
              have HX5 := Lib.hid (Blk.chg HX4.out hC5 (fun h => h))
              clear HC4 HR4 HX4 HL4 hC5 z1 hlen4
              obtain ⟨y0, y1, y2, y3, _⟩ := stm_blk HX5.out
              obtain ⟨d0, d1, d2, g0, g1, g2, hwlt⟩ := res0_cells HR5.out
              by_cases hf : 0 ≤ Nm.findI ((stms l).take j) nm
              · have hfd : decide (0 ≤ Nm.findI ((stms l).take j) nm) = true := by simpa using hf
                have hchk : Hid (Nm.check (stms l) = (6, ln, cl)) := by
                  have hbd : Nm.bad ((stms l).take j) ⟨kd, nm, ln, cl⟩ = 6 := Nm.bad_twice hkn.out (by have := hm'.out; dsimp only; omega) hn'.out hf
                  have h := Nm.check_bad' hget.out hF.out (by rw [hbd]; decide)
                  rw [hbd] at h
                  exact h
                go_wp2
                refine fault_ret rfl (g := w.heap.size) rfl (res0_set HR5.out 6 ln cl) rfl ⟨by rw [hchk.out], chg_set3 HC5.out (Nat.le_refl _) _ _ _⟩
              · have hfd : decide (0 ≤ Nm.findI ((stms l).take j) nm) = false := by simpa using hf
                have hF2 : Hid (Nm.Fine ((stms l).take (j + 1))) := Nm.fine_next hget.out hF.out (Nm.bad_none hkn.out (by have := hm'.out; dsimp only; omega) (fun _ => by dsimp only; omega))
                go_wp2
                go_roundw
                case rel => exact ⟨j + 1, by omega, by go_num, hF2, HC5, HR5⟩
                case measure => simp [intOf]; omega
    · obtain rfl : j = l.length := by omega
      obtain ⟨d0, d1, d2, g0, g1, g2, hwlt⟩ := res0_cells hB.out
      have hchk : Hid (Nm.check (stms l) = (0, 0, 0)) := by
        have h := hF.out
        rw [List.take_of_length_le (by omega)] at h
        exact Nm.check_fine h
      clear hsl
      go_wp2
      refine fault_ret rfl (g := w.heap.size) rfl (res0_set hB.out 0 0 0) rfl ⟨by rw [hchk.out], chg_set3 hC.out (Nat.le_refl _) _ _ _⟩
end Go.Proofs.Ytpppgnphblbbcaa
