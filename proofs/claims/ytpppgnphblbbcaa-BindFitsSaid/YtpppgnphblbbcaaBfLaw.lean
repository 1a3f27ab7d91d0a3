/- The walk of the law BindFits. -/
import Derived.Test.YtpppgnphblbbcaaBfPlain
import Derived.Test.YtpppgnphblbbcaaBfMake
import Derived.Test.YtpppgnphblbbcaaBnLaw
namespace Go.Proofs.Ytpppgnphblbbcaa
open Go.RowKit

/-- The plain instructions made so far. -/
structure Pl (w wr : World) (f : List Nm.Item) (j : Nat) (v : Value) : Prop where
  own : wr.ownsRow w.heap.size 77 7 v j (((f.take j).map plainI).flatMap instV7)
  chg : Chg (fun _ => False) w wr
theorem Pl.more {w wr wa w' : World} {f : List Nm.Item} {j g cap : Nat} {v : Value} {x : Nm.Item} (h : Pl w wr f j v) (hx : f[j]? = some x) (ha : Chg (fun _ => False) wr wa)
    (ho : w'.ownsRow w.heap.size 77 7 (.slice (some ⟨g, 0, none⟩) (j + 1) cap) (j + 1) (((f.take j).map plainI).flatMap instV7 ++ instV7 (plainI x))) (hg : wa.grownBy w' v.ownBlock) : Pl w w' f (j + 1) (.slice (some ⟨g, 0, none⟩) (j + 1) cap) := by
  refine ⟨?_, ?_⟩
  · obtain ⟨hjl, rfl⟩ := List.getElem?_eq_some_iff.1 hx
    rw [List.take_succ_eq_append_getElem hjl, List.map_append, List.flatMap_append]
    simpa using ho
  · have c1 : Chg (fun k => v.ownBlock = some k) wr w' := Chg.grown (S := fun k => v.ownBlock = some k) (ha.mono (fun _ _ h => h.elim)) hg (fun k hk => .inl hk)
    exact Chg.trans h.chg c1 (fun i hi e => by have := (h.own.lt i e).1; omega)
theorem ins_one (x : Nm.Inst) : ∀ u ∈ instV7 x, u.oneCell' = true := by
  intro u hu
  simp only [instV7, List.mem_cons, List.not_mem_nil, or_false] at hu
  rcases hu with rfl | rfl | rfl | rfl | rfl | rfl | rfl <;> rfl
theorem insts_map (l : List Nm.Stm) (f : List Nm.Item) : instsC l f = (f.map (Nm.instV l)).flatMap instV7 := by
  rw [List.flatMap_map]; rfl
set_option maxRecDepth 100000 in
set_option maxHeartbeats 16000000 in
theorem law_fits (W : World) (A : Option Addr) (c : Nat) (l : List StmC) (B : Option Addr) (d : Nat) (f : List Nm.Item) (prop : Bool) (hl : l.length ≤ maxLen) (hl2 : f.length ≤ maxLen) (hr : Rd W W.heap.size A (cellsOf l)) (hz : ∀ x ∈ l, x.s.name.size ≤ maxLen) (hr2 : Rd W W.heap.size B (cellsI f)) (hz2 : Sized f) :
    Calls Try.prog 15 #[.slice A l.length c, .slice B f.length d, .bool prop] W fun e W' => e = .returned (.bool true) ∧ Chg (fun _ => False) W W' := by
  have HR := Lib.hid hr
  have HZ := Lib.hid hz
  have HR2 := Lib.hid hr2
  have HZ2 := Lib.hid hz2
  unfold maxLen at hl hl2
  clear hr hz hr2 hz2
  by_cases h80 : 80 < l.length
  · go_enter Try.func15, Try.ntmps15
    go_wp2_with (go_at_call 26; refine (bawake_any _).mono ?_; rintro e w' ⟨rfl, hC⟩; have HC := Lib.hid hC; clear hC)
    go_ret
    exact ⟨rfl, HC.out⟩
  by_cases h64 : 64 < f.length
  · go_enter Try.func15, Try.ntmps15
    go_wp2_with (go_at_call 26; refine (bawake_any _).mono ?_; rintro e w' ⟨rfl, hC⟩; have HC := Lib.hid hC; clear hC)
    go_ret
    exact ⟨rfl, HC.out⟩
  go_enter Try.func15, Try.ntmps15
  go_wp2_with fail
  refine (build_any W A l.length c l rfl (by omega) HR.out HZ.out).mono ?_
  rintro e w1 ⟨v, rfl, hB, hC⟩
  have HC := Lib.hid hC
  have HB := Lib.hid hB
  clear hC hB
  obtain ⟨f0, f1, f2, hf⟩ : ∃ f0 f1 f2, (f0, f1, f2) = Nm.check (stms l) := ⟨_, _, _, rfl⟩
  rw [← hf]
  simp only [faultV]
  have HF0 := Lib.hid hf
  have hX2 := Blk.new w1 29 #[.int .i64 f0, .int .i64 f1, .int .i64 f2]
  have hC2 := HC.out.alloc (.cells #[.int .i64 f0, .int .i64 f1, .int .i64 f2] 29)
  have hC3 := (Chg.refl (fun _ => False) w1).alloc (.cells #[.int .i64 f0, .int .i64 f1, .int .i64 f2] 29)
  have dc : (w1.alloc (.cells #[.int .i64 f0, .int .i64 f1, .int .i64 f2] 29)).cell? ⟨w1.heap.size, 0, none⟩ = some (.int .i64 f0) := by rw [hX2.cell]; rfl
  obtain ⟨w2, hw2⟩ : ∃ w2, w2 = w1.alloc (.cells #[.int .i64 f0, .int .i64 f1, .int .i64 f2] 29) := ⟨_, rfl⟩
  rw [← hw2] at hX2 hC2 hC3
  obtain ⟨g, hg⟩ : ∃ g, g = w1.heap.size := ⟨_, rfl⟩
  have HW2 := Lib.hid hw2
  have HG := Lib.hid hg
  have HC2 := Lib.hid hC2
  have HC3 := Lib.hid hC3
  clear hX2 hC2 hC3 hw2 hg hf
  rcases HB.out with ⟨rfl, hne⟩ | ⟨he, b, mb, nv, rfl, hT, hF⟩
  · have hz0 : (f0 != 0) = true := by rw [← HF0.out] at hne; simpa using hne
    clear hne HB HC
    go_wp2_with fail
    rw [← HW2.out]
    clear HC3 dc HW2 HG
    refine (bawake_any _).mono ?_
    rintro e w' ⟨rfl, hC⟩
    have HE := Lib.hid (Chg.trans HC2.out hC (fun _ _ h => h))
    clear hC
    go_wp2
    go_ret
    exact ⟨rfl, HE.out⟩
  have HT := Lib.hid (hT.quiet HC3.out)
  have hzz : f0 = 0 := by rw [← HF0.out] at he; injection he
  subst hzz
  clear hT hF he HB HC
  go_upto_region 6 with fail
  rw [← HW2.out, ← HG.out]
  clear HC3 HW2 HG dc HF0
  have hcn : ∀ k : Int, Nm.known k = true → cntOf (stms l) k = (Nm.ahead (stms l) k : Int) := fun k hk => by unfold cntOf; rw [if_pos hk]
  have hle : ∀ k : Int, Nm.ahead (stms l) k ≤ 1000 := fun k => by
    have := Nm.ahead_le (stms l) k
    have hsl : (stms l).length = l.length := by simp [stms]
    omega
  have HLE := Lib.hid hle
  refine region6 (n1 := Nm.ahead (stms l) 1) (n2 := Nm.ahead (stms l) 2) (n4 := Nm.ahead (stms l) 4) (n5 := Nm.ahead (stms l) 5) (n7 := Nm.ahead (stms l) 7) (by kernel_rfl) (by rfl) (by kernel_rfl) ?_ (Nat.le_of_ble_eq_true (by rfl)) (by rfl) HT.out (hcn 1 rfl) (hcn 2 rfl) (hcn 4 rfl) (hcn 5 rfl) (hcn 7 rfl) (hle 1) (hle 2) (hle 4) (hle 5) (hle 7) ?_
  · intro i o hi ho
    rcases (by omega : i = 0 ∨ i = 1 ∨ i = 2 ∨ i = 3 ∨ i = 4 ∨ i = 5 ∨ i = 6 ∨ i = 7 ∨ i = 8 ∨ i = 9 ∨ i = 10 ∨ i = 11 ∨ i = 12 ∨ i = 13 ∨ i = 14 ∨ i = 15 ∨ i = 16 ∨ i = 17) with rfl | rfl | rfl | rfl | rfl | rfl | rfl | rfl | rfl | rfl | rfl | rfl | rfl | rfl | rfl | rfl | rfl | rfl
    all_goals
      simp only [List.getElem?_toArray, List.getElem?_cons_zero, List.getElem?_cons_succ, Option.some.injEq] at ho
      subst ho
      first
        | exact ⟨rfl, rfl, rfl⟩
        | exact ⟨rfl, rfl, rfl, by kernel_rfl⟩
  intro fv w3 z m h9 hzs hbz hsd hc3
  have HM := Lib.hid hbz
  have HS := Lib.hid hsd
  have C3 := Lib.hid (Chg.trans HC2.out hc3 (fun _ _ h => h))
  have T3 := Lib.hid (HT.out.quiet hc3)
  clear hcn hle hzs hbz hsd hc3 HT HC2
  simp only [putAll, ds6, List.setIfInBounds_toArray, List.set_cons_succ, List.set_cons_zero]
  rw [h9]
  clear h9
  generalize fv 33 = v33, fv 34 = v34, fv 35 = v35, fv 36 = v36, fv 37 = v37, fv 38 = v38, fv 39 = v39, fv 40 = v40, fv 41 = v41, fv 42 = v42, fv 43 = v43, fv 44 = v44, fv 45 = v45, fv 46 = v46, fv 47 = v47, fv 48 = v48
  clear fv
  go_wp2_with fail
  refine (formula_any w3 b mb nv (stms l) B f.length d f rfl (by omega) ((HR2.out.chg C3.out (Nat.le_refl _) (fun _ h => h.elim)).more C3.out.size) HZ2.out T3.out).mono ?_
  rintro e w4 ⟨v1, rfl, hF1, hC⟩
  obtain ⟨A1, n1, f', rfl, hle1, hrd1, hf1⟩ := formed_rd hF1
  have HC4 := Lib.hid (Chg.trans C3.out hC (fun _ _ h => h))
  have HM4 := Lib.hid (HM.out.chg hC (fun h => h))
  have RD4 := Lib.hid hrd1
  obtain ⟨p0, p1, p2, hp⟩ : ∃ p0 p1 p2, (p0, p1, p2) = Nm.fault (stms l) f := ⟨_, _, _, rfl⟩
  have HP := Lib.hid hp
  rw [← hp] at hf1
  rw [← hp]
  simp only [faultV]
  clear hF1 hC hrd1 hp T3 HM
  go_upto_region 8 with fail
  have hY := Blk.new w4 29 #[.int .i64 p0, .int .i64 p1, .int .i64 p2]
  have hC5 := HC4.out.alloc (.cells #[.int .i64 p0, .int .i64 p1, .int .i64 p2] 29)
  have hM5 := HM4.out.alloc (.cells #[.int .i64 p0, .int .i64 p1, .int .i64 p2] 29)
  have hR5 := (RD4.out.chg ((Chg.refl (fun _ => False) w4).alloc (.cells #[.int .i64 p0, .int .i64 p1, .int .i64 p2] 29)) (Nat.le_refl _) (fun _ h => h.elim)).more (B' := (w4.alloc (.cells #[.int .i64 p0, .int .i64 p1, .int .i64 p2] 29)).heap.size) (by simp)
  obtain ⟨w5, hw5⟩ : ∃ w5, w5 = w4.alloc (.cells #[.int .i64 p0, .int .i64 p1, .int .i64 p2] 29) := ⟨_, rfl⟩
  obtain ⟨gy, hgy⟩ : ∃ gy, gy = w4.heap.size := ⟨_, rfl⟩
  rw [← hw5] at hY hC5 hM5 hR5 ⊢
  rw [← hgy] at hY ⊢
  have dy : w5.cell? ⟨gy, 0, none⟩ = some (.int .i64 p0) := by rw [hY.cell]; rfl
  have C5 := Lib.hid hC5
  have M5 := Lib.hid hM5
  have R5 := Lib.hid hR5
  clear hw5 hgy hY hC5 hM5 hR5 HC4 RD4 HM4
  by_cases hp0 : p0 = 0
  case neg =>
    have d0 : (p0 != 0) = true := by simpa using hp0
    rw [if_neg hp0] at hf1
    subst hf1
    go_wp2_with fail
    refine (bawake_any _).mono ?_
    rintro e w' ⟨rfl, hC⟩
    have HE := Lib.hid (Chg.trans C5.out hC (fun _ _ h => h))
    clear hC
    go_wp2
    go_ret
    exact ⟨rfl, HE.out⟩
  subst hp0
  rw [if_pos rfl] at hf1
  subst hf1
  have HFA := Lib.hid (fault_all (l := stms l) (f := f') (by rw [← HP.out]))
  clear HP hle1
  obtain ⟨i77, hi77, hz0, hz1, hz2⟩ := info_parts inst_info
  go_wp2_with fail
  clear dy
  go_loopw [13, 12] (fun i v wr => ∃ j : Nat, j ≤ f'.length ∧ i = .int .i64 j ∧ Hid (Pl w5 wr f' j v)) (fun i _ _ => f'.length - (intOf i).toNat)
  case atStart => exact ⟨0, Nat.zero_le _, rfl, ⟨World.ownsRow_nil _ _ _ _, Chg.refl _ _⟩⟩
  case round =>
    obtain ⟨j, hj, rfl, hM⟩ := hrel
    by_cases hlt : j < f'.length
    · obtain ⟨x, hx⟩ : ∃ x, f'[j]? = some x := ⟨_, List.getElem?_eq_getElem hlt⟩
      obtain ⟨xb, o, hA, hxb, c0, _⟩ := item_at ((HR2.out.chg C5.out (Nat.le_refl _) (fun _ h => h.elim)).chg hM.out.chg C5.out.size (fun _ h => h.elim)) hx
      subst hA
      have HX := Lib.hid hx
      clear hx
      obtain ⟨op, hop⟩ : ∃ op, op = x.op := ⟨_, rfl⟩
      rw [← hop] at c0
      have HOP := Lib.hid hop
      clear hop
      have hbl : xb < wr.heap.size := Nat.lt_of_lt_of_le hxb (Nat.le_trans C5.out.size hM.out.chg.size)
      have c0' : ∀ ob, (wr.alloc ob).cell? ⟨xb, o + j * 9, none⟩ = some (.int .i64 op) := fun ob => (World.cell?_alloc_lt _ _ _ hbl).trans c0
      have hsz := hM.out.chg.size
      rcases (by omega : (op < 9) ∨ (9 ≤ op ∧ op < 11) ∨ (11 ≤ op ∧ op ≤ 12) ∨ (12 < op)) with h1 | h1 | h1 | h1
      ·
        have d0 : decide (9 ≤ op) = false := by rw [decide_eq_false_iff_not]; omega
        have hpl : Hid (instV7 (plainI x) = [.int .i64 op, .int .i64 (-1), .int .i64 0, .int .i64 (-1), .int .i64 0, .int .i64 0, .int .i64 0]) := by show _ = _; unfold plainI plainOp; rw [← HOP.out]; rw [if_neg (by omega)]; rfl
        clear h1
        go_wp2_with (at_builtin; refine wpList_append_lies _ rfl (.tmp 94) (.tmp 96) 49 rfl w5.heap.size 77 i77 _ 7 56 Try.underlying49 hi77 hz0 hz1 hz2 rfl (by omega) u12 j (((f'.take j).map plainI).flatMap instV7) rfl (by exact World.ownsRow.alloc (World.ownsRow.alloc hM.out.own _) _) ⟨wr.heap.size + 1, 0, none⟩ 1 1 (instV7 (plainI x)) rfl rfl (by rw [hpl.out]; exact all_new (blk_new2 wr _ 77 #[.int .i64 op, .int .i64 (-1), .int .i64 0, .int .i64 (-1), .int .i64 0, .int .i64 0, .int .i64 0])) (ins_one (plainI x)) (by omega) (by unfold maxLen; omega) (by omega) (by simp; omega) (wr.heap.size + 1 + 1) (by simp) ?_; intro gg cap w9 hown9 hg9 hat9 hlt9; have HI9 := Lib.hid (hM.out.more HX.out (((Chg.refl _ wr).alloc _).alloc _) hown9 hg9); clear hown9 hg9 hat9 hlt9)
        go_roundw
        case rel => exact ⟨j + 1, by omega, by go_num, HI9⟩
        case measure => (simp [intOf] <;> omega)
      ·
        have d0 : decide (9 ≤ op) = true := by rw [decide_eq_true_iff]; omega
        have d1 : decide (op ≤ 12) = true := by rw [decide_eq_true_iff]; omega
        have d2 : decide (11 ≤ op) = false := by rw [decide_eq_false_iff_not]; omega
        have hpl : Hid (instV7 (plainI x) = [.int .i64 1, .int .i64 (-1), .int .i64 0, .int .i64 (-1), .int .i64 0, .int .i64 0, .int .i64 0]) := by show _ = _; unfold plainI plainOp; rw [← HOP.out]; rw [if_pos (by omega), if_neg (by omega)]; rfl
        clear h1
        go_wp2_with (at_builtin; refine wpList_append_lies _ rfl (.tmp 94) (.tmp 96) 49 rfl w5.heap.size 77 i77 _ 7 56 Try.underlying49 hi77 hz0 hz1 hz2 rfl (by omega) u12 j (((f'.take j).map plainI).flatMap instV7) rfl (by exact World.ownsRow.alloc (World.ownsRow.alloc hM.out.own _) _) ⟨wr.heap.size + 1, 0, none⟩ 1 1 (instV7 (plainI x)) rfl rfl (by rw [hpl.out]; exact all_new (blk_new2 wr _ 77 #[.int .i64 1, .int .i64 (-1), .int .i64 0, .int .i64 (-1), .int .i64 0, .int .i64 0, .int .i64 0])) (ins_one (plainI x)) (by omega) (by unfold maxLen; omega) (by omega) (by simp; omega) (wr.heap.size + 1 + 1) (by simp) ?_; intro gg cap w9 hown9 hg9 hat9 hlt9; have HI9 := Lib.hid (hM.out.more HX.out (((Chg.refl _ wr).alloc _).alloc _) hown9 hg9); clear hown9 hg9 hat9 hlt9)
        go_roundw
        case rel => exact ⟨j + 1, by omega, by go_num, HI9⟩
        case measure => (simp [intOf] <;> omega)
      ·
        have d0 : decide (9 ≤ op) = true := by rw [decide_eq_true_iff]; omega
        have d1 : decide (op ≤ 12) = true := by rw [decide_eq_true_iff]; omega
        have d2 : decide (11 ≤ op) = true := by rw [decide_eq_true_iff]; omega
        have hpl : Hid (instV7 (plainI x) = [.int .i64 13, .int .i64 (-1), .int .i64 0, .int .i64 (-1), .int .i64 0, .int .i64 0, .int .i64 0]) := by show _ = _; unfold plainI plainOp; rw [← HOP.out]; rw [if_pos (by omega), if_pos (by omega)]; rfl
        clear h1
        go_wp2_with (at_builtin; refine wpList_append_lies _ rfl (.tmp 94) (.tmp 96) 49 rfl w5.heap.size 77 i77 _ 7 56 Try.underlying49 hi77 hz0 hz1 hz2 rfl (by omega) u12 j (((f'.take j).map plainI).flatMap instV7) rfl (by exact World.ownsRow.alloc (World.ownsRow.alloc hM.out.own _) _) ⟨wr.heap.size + 1, 0, none⟩ 1 1 (instV7 (plainI x)) rfl rfl (by rw [hpl.out]; exact all_new (blk_new2 wr _ 77 #[.int .i64 13, .int .i64 (-1), .int .i64 0, .int .i64 (-1), .int .i64 0, .int .i64 0, .int .i64 0])) (ins_one (plainI x)) (by omega) (by unfold maxLen; omega) (by omega) (by simp; omega) (wr.heap.size + 1 + 1) (by simp) ?_; intro gg cap w9 hown9 hg9 hat9 hlt9; have HI9 := Lib.hid (hM.out.more HX.out (((Chg.refl _ wr).alloc _).alloc _) hown9 hg9); clear hown9 hg9 hat9 hlt9)
        go_roundw
        case rel => exact ⟨j + 1, by omega, by go_num, HI9⟩
        case measure => (simp [intOf] <;> omega)
      ·
        have d0 : decide (9 ≤ op) = true := by rw [decide_eq_true_iff]; omega
        have d1 : decide (op ≤ 12) = false := by rw [decide_eq_false_iff_not]; omega
        have hpl : Hid (instV7 (plainI x) = [.int .i64 op, .int .i64 (-1), .int .i64 0, .int .i64 (-1), .int .i64 0, .int .i64 0, .int .i64 0]) := by show _ = _; unfold plainI plainOp; rw [← HOP.out]; rw [if_neg (by omega)]; rfl
        clear h1
        go_wp2_with (at_builtin; refine wpList_append_lies _ rfl (.tmp 94) (.tmp 96) 49 rfl w5.heap.size 77 i77 _ 7 56 Try.underlying49 hi77 hz0 hz1 hz2 rfl (by omega) u12 j (((f'.take j).map plainI).flatMap instV7) rfl (by exact World.ownsRow.alloc (World.ownsRow.alloc hM.out.own _) _) ⟨wr.heap.size + 1, 0, none⟩ 1 1 (instV7 (plainI x)) rfl rfl (by rw [hpl.out]; exact all_new (blk_new2 wr _ 77 #[.int .i64 op, .int .i64 (-1), .int .i64 0, .int .i64 (-1), .int .i64 0, .int .i64 0, .int .i64 0])) (ins_one (plainI x)) (by omega) (by unfold maxLen; omega) (by omega) (by simp; omega) (wr.heap.size + 1 + 1) (by simp) ?_; intro gg cap w9 hown9 hg9 hat9 hlt9; have HI9 := Lib.hid (hM.out.more HX.out (((Chg.refl _ wr).alloc _).alloc _) hown9 hg9); clear hown9 hg9 hat9 hlt9)
        go_roundw
        case rel => exact ⟨j + 1, by omega, by go_num, HI9⟩
        case measure => (simp [intOf] <;> omega)
    · obtain rfl : j = f'.length := by omega
      clear hlt hj
      obtain ⟨A6, cap6, h6, _, _⟩ := own_slice hM.out.own
      have hown := hM.out.own
      rw [h6, List.take_length] at hown
      have R6 := Lib.hid (own_rdN hown)
      have C6 := Lib.hid (Chg.trans C5.out hM.out.chg (fun _ _ h => h))
      have M6 := Lib.hid (M5.out.chg hM.out.chg (fun h => h))
      have R7 := R5.out.later hM.out.chg (fun _ h => h.elim)
      rw [insts_map] at R7
      have hsd := HS.out
      have KB := bCheck_any wr m A1 n1 (f'.map (Nm.instV (stms l))) prop ⟨by rw [hsd.a]; exact HLE.out 1, by rw [hsd.u]; exact HLE.out 2, by rw [hsd.s]; exact HLE.out 4, by rw [hsd.e]; exact HLE.out 5, by rw [hsd.m]; exact HLE.out 7⟩ (by rw [List.length_map]; omega) R7 (fun y hy => by
        obtain ⟨x, hx, rfl⟩ := List.mem_map.1 hy
        exact fits ⟨hsd.a, hsd.u, hsd.s, hsd.e, hsd.m⟩ (HFA.out x hx))
      rw [List.length_map, chk_same] at KB
      have KR := fun (w' : World) (h : Chg (fun _ => False) wr w') => rbCheck_any w' emp0 A6 cap6 (f'.map plainI) prop ⟨by decide, by decide, by decide, by decide, by decide⟩ (by rw [List.length_map]; omega) (R6.out.later h (fun _ h => h.elim)) (fun y hy => by
        obtain ⟨x, hx, rfl⟩ := List.mem_map.1 hy
        exact plain_bare emp0 x)
      simp only [List.length_map] at KR
      obtain ⟨cv, hcv⟩ : ∃ cv, cv = chkB (f'.map plainI) prop := ⟨_, rfl⟩
      rw [← hcv] at KB KR
      have b1 : (cv == cv) = true := by simp
      replace KB := Lib.hid KB
      replace KR := Lib.hid KR
      unfold modV modA at KB
      unfold modV modA emp0 at KR
      dsimp only at KR
      obtain ⟨e0, e1, e2, e3, e4, e5, e6, e7, e8, e9⟩ := mod_cells M6.out
      rw [h6]
      clear hown hM h6 hcv hsd hi77 hz0 hz1 hz2 R7
      go_wp2_with fail
      refine Calls.mono KB.out ?_
      rintro e w7 ⟨rfl, h⟩
      have HC7 := Lib.hid (Chg.trans C6.out h (fun _ _ h => h))
      have K7 := Lib.hid (KR.out _ h)
      clear h e0 e1 e2 e3 e4 e5 e6 e7 e8 e9
      go_wp2_with fail
      refine Calls.mono K7.out ?_
      rintro e w8 ⟨rfl, h⟩
      have HC8 := Lib.hid (Chg.trans HC7.out h (fun _ _ h => h))
      clear h
      go_wp2_with fail
      refine (bawake_any _).mono ?_
      rintro e w' ⟨rfl, hC⟩
      have HE := Lib.hid (Chg.trans HC8.out hC (fun _ _ h => h))
      clear hC
      go_wp2
      go_ret
      exact ⟨rfl, HE.out⟩
end Go.Proofs.Ytpppgnphblbbcaa
