/- The law of what formulas are bound: its walk. -/
import Derived.Test.YtpppgnphblbbcaaBnAwake
import Derived.Test.YtpppgnphblbbcaaBnRefForm
namespace Go.Proofs.Ytpppgnphblbbcaa
open Go.RowKit

theorem formed_rd {w w' : World} {l : List Nm.Stm} {f : List Nm.Item} {v : Value} (h : Formed w w' l f v) : ∃ (A : Option Addr) (c : Nat) (f' : List Nm.Item), v = .slice A f'.length c ∧ f'.length ≤ f.length ∧ Rd w' w'.heap.size A (instsC l f') ∧ f' = if (Nm.fault l f).1 = 0 then f else [] := by
  rcases h with ⟨h1, rfl⟩ | ⟨h1, h2⟩
  · exact ⟨none, 0, [], rfl, by simp, fun h => by simp [instsC] at h, by rw [if_neg h1]⟩
  · obtain ⟨A, c, hv, _, _⟩ := (show ∃ A c, v = .slice A f.length c ∧ True ∧ True from by
      rcases h2.2 with ⟨h3, h4⟩ | ⟨g, cap, cur, h3, _⟩
      · exact ⟨none, 0, by rw [h3, h4], trivial, trivial⟩
      · exact ⟨_, cap, h3, trivial, trivial⟩)
    subst hv
    exact ⟨A, c, f, rfl, Nat.le_refl _, own_rdN h2, by rw [h1]; rfl⟩

set_option maxRecDepth 100000 in
set_option maxHeartbeats 4000000 in
theorem law_formulas (W : World) (A : Option Addr) (c : Nat) (l : List StmC) (B : Option Addr) (d : Nat) (f : List Nm.Item) (hr : Rd W W.heap.size A (cellsOf l)) (hz : ∀ x ∈ l, x.s.name.size ≤ maxLen) (hr2 : Rd W W.heap.size B (cellsI f)) (hz2 : Sized f) :
    Calls Try.prog 6 #[.slice A l.length c, .slice B f.length d] W fun e W' => e = .returned (.bool true) ∧ Below W.heap.size W W' := by
  have HR := Lib.hid hr
  have HZ := Lib.hid hz
  have HR2 := Lib.hid hr2
  have HZ2 := Lib.hid hz2
  clear hr hz hr2 hz2
  by_cases h80 : 80 < l.length
  · go_enter Try.func6, Try.ntmps6
    go_wp2_with (go_at_call 26; refine (bawake_any _).mono ?_; rintro e w' ⟨rfl, hC⟩)
    go_ret
    exact ⟨rfl, hC.below (Nat.le_refl _) (fun _ h => h.elim)⟩
  by_cases h100 : 100 < f.length
  · go_enter Try.func6, Try.ntmps6
    go_wp2_with (go_at_call 26; refine (bawake_any _).mono ?_; rintro e w' ⟨rfl, hC⟩)
    go_ret
    exact ⟨rfl, hC.below (Nat.le_refl _) (fun _ h => h.elim)⟩
  go_enter Try.func6, Try.ntmps6
  go_wp2_with fail
  refine (build_any W A l.length c l rfl (by omega) HR.out HZ.out).mono ?_
  rintro e w1 ⟨v, rfl, hB, hC⟩
  have HC := Lib.hid hC
  have HB := Lib.hid hB
  clear hC hB
  obtain ⟨f0, f1, f2, hf⟩ : ∃ f0 f1 f2, (f0, f1, f2) = Nm.check (stms l) := ⟨_, _, _, rfl⟩
  rw [← hf]
  simp only [faultV]
  have HF0 := Lib.hid hf
  have hX2 := Blk.new w1 29 #[.int .i64 f0, .int .i64 f1, .int .i64 f2]
  have hC2 := HC.out.alloc (.cells #[.int .i64 f0, .int .i64 f1, .int .i64 f2] 29)
  have hC3 := (Chg.refl (fun _ => False) w1).alloc (.cells #[.int .i64 f0, .int .i64 f1, .int .i64 f2] 29)
  have dc : (w1.alloc (.cells #[.int .i64 f0, .int .i64 f1, .int .i64 f2] 29)).cell? ⟨w1.heap.size, 0, none⟩ = some (.int .i64 f0) := by rw [hX2.cell]; rfl
  obtain ⟨w2, hw2⟩ : ∃ w2, w2 = w1.alloc (.cells #[.int .i64 f0, .int .i64 f1, .int .i64 f2] 29) := ⟨_, rfl⟩
  rw [← hw2] at hX2 hC2 hC3
  obtain ⟨g, hg⟩ : ∃ g, g = w1.heap.size := ⟨_, rfl⟩
  have HW2 := Lib.hid hw2
  have HG := Lib.hid hg
  rw [← hg] at hX2
  have HX2 := Lib.hid hX2
  have HC2 := Lib.hid hC2
  have HC3 := Lib.hid hC3
  clear hX2 hC2 hC3 hw2 hg hf
  have r0 : (f0 == f0) = true := by simp
  have r1 : (f1 == f1) = true := by simp
  have r2 : (f2 == f2) = true := by simp
  rcases HB.out with ⟨rfl, hne⟩ | ⟨he, b, mb, nv, rfl, hT, hF⟩
  · have hz0 : (f0 != 0) = true := by rw [← HF0.out] at hne; simpa using hne
    clear hne HB HC
    go_wp2_with fail
    rw [← HW2.out, ← HG.out]
    clear HC3 dc
    have L2 := Lib.hid ((HR.out.chg HC2.out (Nat.le_refl _) (fun _ h => h.elim)).more HC2.out.size)
    have H80 := Lib.hid h80
    obtain ⟨x0, x1, x2⟩ : w2.cell? ⟨g, 0, none⟩ = some (.int .i64 f0) ∧ w2.cell? ⟨g, 1, none⟩ = some (.int .i64 f1) ∧ w2.cell? ⟨g, 2, none⟩ = some (.int .i64 f2) := by
      refine ⟨?_, ?_, ?_⟩ <;> rw [HX2.out.cell] <;> rfl
    have hg2 := HX2.out.lt
    clear HW2 HG
    go_region_with ((first | (go_at_call 21; refine (refCheck_any _ A l.length c l rfl (by have := H80.out; omega) (by exact L2.out)).mono ?_; rintro e w3 ⟨rfl, hc⟩; rw [← HF0.out]; simp only [faultV]; have y0 : w3.cell? ⟨g, 0, none⟩ = some (.int .i64 f0) := (by rw [← x0]; exact hc.cell hg2 (fun h => h)); have y1 : w3.cell? ⟨g, 1, none⟩ = some (.int .i64 f1) := (by rw [← x1]; exact hc.cell hg2 (fun h => h)); have y2 : w3.cell? ⟨g, 2, none⟩ = some (.int .i64 f2) := (by rw [← x2]; exact hc.cell hg2 (fun h => h))) | (go_at_call 26; refine (bawake_any _).mono ?_; rintro e w4 ⟨rfl, hc2⟩)))
    all_goals
      go_wp2
      go_ret
      exact ⟨rfl, (Chg.trans HC2.out (Chg.trans (Chg.trans ((Chg.refl _ w2).drew) hc (fun _ _ h => h)) hc2 (fun _ _ h => h)) (fun _ _ h => h)).below (Nat.le_refl _) (fun _ h => h.elim)⟩
  · have HT := Lib.hid (hT.quiet HC3.out)
    have hzz : f0 = 0 := by rw [← HF0.out] at he; injection he
    subst hzz
    clear hT hF he HB HC
    go_wp2_with fail
    rw [← HW2.out, ← HG.out]
    clear HC3 HW2 HG dc
    refine (formula_any w2 b mb nv (stms l) B f.length d f rfl (by omega) ((HR2.out.chg HC2.out (Nat.le_refl _) (fun _ h => h.elim)).more HC2.out.size) HZ2.out HT.out).mono ?_
    rintro e w3 ⟨v1, rfl, hF1, hC⟩
    obtain ⟨A1, n1, f', rfl, hle1, hrd1, hf1⟩ := formed_rd hF1
    have HC3 := Lib.hid (Chg.trans HC2.out hC (fun _ _ h => h))
    have RD3 := Lib.hid hrd1
    obtain ⟨p0, p1, p2, hp⟩ : ∃ p0 p1 p2, (p0, p1, p2) = Nm.fault (stms l) f := ⟨_, _, _, rfl⟩
    have HP := Lib.hid hp
    have HF1 := Lib.hid hf1
    rw [← hp]
    simp only [faultV]
    clear hF1 hC hrd1 hp HC2 HT hf1
    go_wp2_with fail
    have hY := Blk.new w3 29 #[.int .i64 p0, .int .i64 p1, .int .i64 p2]
    have hC4 := HC3.out.alloc (.cells #[.int .i64 p0, .int .i64 p1, .int .i64 p2] 29)
    have hR4 := RD3.out.chg ((Chg.refl (fun _ => False) w3).alloc (.cells #[.int .i64 p0, .int .i64 p1, .int .i64 p2] 29)) (Nat.le_refl _) (fun _ h => h.elim)
    obtain ⟨w4, hw4⟩ : ∃ w4, w4 = w3.alloc (.cells #[.int .i64 p0, .int .i64 p1, .int .i64 p2] 29) := ⟨_, rfl⟩
    obtain ⟨gy, hgy⟩ : ∃ gy, gy = w3.heap.size := ⟨_, rfl⟩
    rw [← hw4] at hY hC4 hR4 ⊢
    rw [← hgy] at hY hR4 ⊢
    have Y4 := Lib.hid hY
    have C4 := Lib.hid hC4
    have R4 := Lib.hid hR4
    clear hw4 hgy hY hC4 hR4 HC3 RD3
    refine (refFormula_any w4 A l.length c l B f.length d f rfl (by omega) ((HR.out.chg C4.out (Nat.le_refl _) (fun _ h => h.elim)).more C4.out.size) rfl (by omega) ((HR2.out.chg C4.out (Nat.le_refl _) (fun _ h => h.elim)).more C4.out.size)).mono ?_
    rintro e w5 ⟨v2, rfl, hF2, hC⟩
    obtain ⟨A2, n2, f'', rfl, hle2, hrd2, hf2⟩ := formed_rd hF2
    obtain rfl : f'' = f' := by rw [hf2, HF1.out]
    rw [← HP.out]
    simp only [faultV]
    have C5 := Lib.hid (Chg.trans C4.out hC (fun _ _ h => h))
    have Y5 := Lib.hid (Y4.out.chg hC (fun h => h))
    have R5 := Lib.hid ((R4.out.chg hC (by have := Y4.out.lt; omega) (fun _ h => h.elim)).more (B' := w5.heap.size) (by have := Y5.out.lt; omega))
    have RE := Lib.hid hrd2
    clear hF2 hC hrd2 hf2 C4 Y4 R4
    have hZ := Blk.new w5 29 #[.int .i64 p0, .int .i64 p1, .int .i64 p2]
    have hY6 := Y5.out.alloc (.cells #[.int .i64 p0, .int .i64 p1, .int .i64 p2] 29)
    have hA6 := (Chg.refl (fun _ => False) w5).alloc (.cells #[.int .i64 p0, .int .i64 p1, .int .i64 p2] 29)
    go_wp2_with fail
    obtain ⟨w6, hw6⟩ : ∃ w6, w6 = w5.alloc (.cells #[.int .i64 p0, .int .i64 p1, .int .i64 p2] 29) := ⟨_, rfl⟩
    obtain ⟨gz, hgz⟩ : ∃ gz, gz = w5.heap.size := ⟨_, rfl⟩
    rw [← hw6] at hZ hY6 hA6 ⊢
    have HGZ := Lib.hid hgz
    rw [← hgz] at hZ ⊢
    have C6 := Lib.hid (Chg.trans C5.out hA6 (fun _ _ h => h))
    have A6 := Lib.hid hA6
    have Z6 := Lib.hid hZ
    have Y6 := Lib.hid hY6
    clear hw6 hgz hZ hY6 hA6
    refine (same_eq w6 A1 A2 n1 n2 (stms l) f'' (by omega) ((R5.out.chg A6.out (Nat.le_refl _) (fun _ h => h.elim)).more A6.out.size) ((RE.out.chg A6.out (Nat.le_refl _) (fun _ h => h.elim)).more A6.out.size)).mono ?_
    rintro e w7 ⟨rfl, hC⟩
    have C7 := Lib.hid (Chg.trans C6.out hC (fun _ _ h => h))
    have hY7 := Y6.out.chg hC (fun h => h)
    have hZ7 := Z6.out.chg hC (fun h => h)
    have y0 : w7.cell? ⟨gy, 0, none⟩ = some (.int .i64 p0) := by rw [hY7.cell]; rfl
    have y1 : w7.cell? ⟨gy, 1, none⟩ = some (.int .i64 p1) := by rw [hY7.cell]; rfl
    have y2 : w7.cell? ⟨gy, 2, none⟩ = some (.int .i64 p2) := by rw [hY7.cell]; rfl
    have z0 : w7.cell? ⟨gz, 0, none⟩ = some (.int .i64 p0) := by rw [hZ7.cell]; rfl
    have z1 : w7.cell? ⟨gz, 1, none⟩ = some (.int .i64 p1) := by rw [hZ7.cell]; rfl
    have z2 : w7.cell? ⟨gz, 2, none⟩ = some (.int .i64 p2) := by rw [hZ7.cell]; rfl
    have q0 : (p0 == p0) = true := by simp
    have q1 : (p1 == p1) = true := by simp
    have q2 : (p2 == p2) = true := by simp
    clear hC hY7 hZ7
    go_wp2_with (go_at_call 26; refine (bawake_any _).mono ?_; rintro e w' ⟨rfl, hC⟩)
    go_ret
    exact ⟨rfl, (Chg.trans C7.out hC (fun _ _ h => h)).below (Nat.le_refl _) (fun _ h => h.elim)⟩
end Go.Proofs.Ytpppgnphblbbcaa
