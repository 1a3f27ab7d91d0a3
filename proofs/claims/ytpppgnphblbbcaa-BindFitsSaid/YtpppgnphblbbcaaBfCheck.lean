/- The walks of Check, the program's and the reference's, where all that is named is there. -/
import Derived.Test.YtpppgnphblbbcaaBfHas
import Derived.Test.YtpppgnphblbbcaaBfShape
import Derived.Test.YtpppgnphblbbcaaKept
namespace Go.Proofs.Ytpppgnphblbbcaa
open Go.RowKit

def timed (op : Int) : Bool := decide (11 ≤ op ∧ op ≤ 14) || decide (19 ≤ op)
def mayB (prop : Bool) (x : Nm.Inst) : Bool := !timed x.op || prop
def chkB (f : List Nm.Inst) (prop : Bool) : Bool := decide (Tr.check (sgI f) f.length = 0) && f.all (mayB prop)
theorem all_take {f : List Nm.Inst} {j : Nat} {x : Nm.Inst} {prop : Bool} (hx : f[j]? = some x) (h : (f.take j).all (mayB prop) = true) (hv : mayB prop x = true) : (f.take (j + 1)).all (mayB prop) = true := by
  obtain ⟨hjl, rfl⟩ := List.getElem?_eq_some_iff.1 hx
  rw [List.take_succ_eq_append_getElem hjl, List.all_append, h]
  simp [hv]
theorem all_bad {f : List Nm.Inst} {j : Nat} {x : Nm.Inst} {prop : Bool} (hx : f[j]? = some x) (hv : mayB prop x = false) : f.all (mayB prop) = false := by
  rw [List.all_eq_false]
  exact ⟨x, List.mem_of_getElem? hx, by rw [hv]; simp⟩
theorem timed_11 {op : Int} (h : op < 11) : timed op = false := by unfold timed; rw [Bool.or_eq_false_iff, decide_eq_false_iff_not, decide_eq_false_iff_not]; omega
theorem timed_14 {op : Int} (h : 11 ≤ op ∧ op ≤ 14) : timed op = true := by unfold timed; rw [Bool.or_eq_true, decide_eq_true_iff, decide_eq_true_iff]; omega
theorem timed_18 {op : Int} (h : 14 < op ∧ op < 19) : timed op = false := by unfold timed; rw [Bool.or_eq_false_iff, decide_eq_false_iff_not, decide_eq_false_iff_not]; omega
theorem timed_19 {op : Int} (h : 19 ≤ op) : timed op = true := by unfold timed; rw [Bool.or_eq_true, decide_eq_true_iff, decide_eq_true_iff]; omega
set_option maxRecDepth 100000 in
set_option maxHeartbeats 8000000 in
theorem bCheck_any (w : World) (m : Emp) (A : Option Addr) (c : Nat) (f : List Nm.Inst) (prop : Bool) (hL : Lens m) (hl : f.length ≤ 1000) (hr : Rd w w.heap.size A (f.flatMap instV7)) (hf : ∀ x ∈ f, fitI m x) :
    Calls Try.prog 51 #[modV m, .slice A f.length c, .bool prop] w fun e w' => e = .returned (.bool (chkB f prop)) ∧ Chg (fun _ => False) w w' := by
  have HR := Lib.hid hr
  have HF := Lib.hid hf
  have HL := Lib.hid hL
  clear hr hf hL
  have hb := Blk.new w 95 (modA m)
  have hC0 := (Chg.refl (fun _ => False) w).alloc (.cells (modA m) 95)
  unfold modV modA
  go_enter Try.func51, Try.ntmps51
  go_wp2_with fail
  obtain ⟨w1, hw1⟩ : ∃ w1, w1 = w.alloc (.cells (modA m) 95) := ⟨_, rfl⟩
  rw [← hw1] at hb hC0
  unfold modA at hw1
  rw [← hw1]
  clear hw1
  obtain ⟨g, hg⟩ : ∃ g, g = w.heap.size := ⟨_, rfl⟩
  rw [← hg] at hb ⊢
  clear hg
  have HB := Lib.hid hb
  have HC := Lib.hid hC0
  clear hb hC0
  refine Calls.mono (shape_any w1 A c f hl (HR.out.later HC.out (fun _ h => h.elim))) ?_
  rintro e w2 ⟨A2, c2, rfl, hr2, h⟩
  have HC2 := Lib.hid (Chg.trans HC.out h (fun _ _ h => h))
  have HB2 := Lib.hid (HB.out.chg h (fun h => h))
  have hck := check_any w2 A2 c2 (f.map toItem) (by rw [List.length_map]; unfold maxLen; omega) hr2
  rw [List.length_map] at hck
  replace hck : Hid (Calls Try.prog 30 #[.slice A2 f.length c2] w2 fun e w' => e = .returned (.int .i64 (Tr.check (sgI f) f.length)) ∧ Chg (fun _ => False) w2 w') := hck
  clear h hr2
  obtain ⟨ck, hckv⟩ : ∃ ck, ck = Tr.check (sgI f) f.length := ⟨_, rfl⟩
  rw [← hckv] at hck
  have HCV := Lib.hid hckv
  clear hckv
  by_cases hc0 : ck = 0
  case neg =>
    have d1 : (ck != 0) = true := by simpa using hc0
    have hv : Hid (chkB f prop = false) := by show _ = _; unfold chkB; rw [decide_eq_false (by rw [← HCV.out]; exact hc0)]; rfl
    go_wp2_with (go_at_call 30; refine Calls.mono hck.out ?_; rintro e w3 ⟨rfl, h⟩; have HC3 := Lib.hid (Chg.trans HC2.out h (fun _ _ h => h)); clear h)
    go_ret
    exact ⟨by rw [hv.out]; rfl, HC3.out⟩
  subst hc0
  have hv : Hid (chkB f prop = f.all (mayB prop)) := by show _ = _; unfold chkB; rw [decide_eq_true HCV.out.symm]; rfl
  go_wp2_with (go_at_call 30; refine Calls.mono hck.out ?_; rintro e w3 ⟨rfl, h⟩; have HC3 := Lib.hid (Chg.trans HC2.out h (fun _ _ h => h)); have HB3 := Lib.hid (HB2.out.chg h (fun h => h)); clear h)
  clear hck
  go_loopw [16] (fun i wr => ∃ j : Nat, j ≤ f.length ∧ i = .int .i64 j ∧ Hid ((f.take j).all (mayB prop) = true) ∧ Hid (Chg (fun _ => False) w3 wr)) (fun i _ => f.length - (intOf i).toNat)
  case atStart => exact ⟨0, Nat.zero_le _, rfl, rfl, Chg.refl _ _⟩
  case round =>
    obtain ⟨j, hj, rfl, HA, hC⟩ := hrel
    by_cases hlt : j < f.length
    · obtain ⟨x, hx⟩ : ∃ x, f[j]? = some x := ⟨_, List.getElem?_eq_getElem hlt⟩
      obtain ⟨xb, o, hA, hxb, c0, c1, c2, c3, c4, c5, c6⟩ := ins_at ((HR.out.chg HC3.out (Nat.le_refl _) (fun _ h => h.elim)).chg hC.out HC3.out.size (fun _ h => h.elim)) hx
      subst hA
      have HX := Lib.hid hx
      have HFX := Lib.hid (HF.out x (List.mem_of_getElem? hx))
      have e := mod_cells (HB3.out.chg hC.out (fun h => h))
      clear hx
      obtain ⟨op, xla, xln, xra, xrn, xn, xu⟩ := x
      dsimp only at c0 c1 c2 c3 c4 c5 c6
      go_upto_region 6 with fail
      obtain ⟨w4, hw4⟩ : ∃ w4, w4 = wr.alloc (.cells #[.int .i64 op, .int .i64 xla, .int .i64 xln, .int .i64 xra, .int .i64 xrn, .int .i64 xn, .int .i64 xu] 77) := ⟨_, rfl⟩
      obtain ⟨sb, hsb⟩ : ∃ sb, sb = wr.heap.size := ⟨_, rfl⟩
      have S4 : Blk w4 sb 77 (instA7 ⟨op, xla, xln, xra, xrn, xn, xu⟩) := by rw [hw4, hsb]; exact Blk.new _ _ _
      have C4 : Hid (Chg (fun _ => False) w3 w4) := by rw [hw4]; exact hC.out.alloc _
      have e := mod_cells (HB3.out.chg C4.out (fun h => h))
      rw [← hw4, ← hsb]
      clear hw4 hsb c0 c1 c2 c3 c4 c5 c6
      obtain ⟨e0, e1, e2, e3, e4, e5, e6, e7, e8, e9⟩ := e
      obtain ⟨x0, x1, x2, x3, x4, x5, x6⟩ := inst_cells S4
      dsimp only at x0 x1 x2 x3 x4 x5 x6
      have KH := Lib.hid (has_true w4 m ⟨op, xla, xln, xra, xrn, xn, xu⟩ HL.out HFX.out)
      unfold modV modA instA7 at KH
      clear S4
      rcases (by omega : op < 11 ∨ (11 ≤ op ∧ op ≤ 14) ∨ (14 < op ∧ op < 19) ∨ 19 ≤ op) with h1 | h1 | h1 | h1
      ·
        have d0 : decide (11 ≤ op) = false := by rw [decide_eq_false_iff_not]; omega
        have d1 : decide (19 ≤ op) = false := by rw [decide_eq_false_iff_not]; omega
        have HT : Hid (timed op = false) := timed_11 h1
        clear h1
        go_wp2_with (go_at_call 71; refine Calls.mono KH.out ?_; rintro e w5 ⟨rfl, h⟩; have C5 := Lib.hid (Chg.trans C4.out h (fun _ _ h => h)); clear h)
        have HV : mayB prop ⟨op, xla, xln, xra, xrn, xn, xu⟩ = true := by unfold mayB; dsimp only; rw [HT.out]; rfl
        go_roundw
        case rel => exact ⟨j + 1, by omega, by go_num, all_take HX.out HA.out HV, C5.out⟩
        case measure => (simp [intOf] <;> omega)
      ·
        have d0 : decide (11 ≤ op) = true := by rw [decide_eq_true_iff]; omega
        have d1 : decide (op ≤ 14) = true := by rw [decide_eq_true_iff]; omega
        have HT : Hid (timed op = true) := timed_14 h1
        clear h1
        cases prop with
        | true =>
          go_wp2_with (go_at_call 71; refine Calls.mono KH.out ?_; rintro e w5 ⟨rfl, h⟩; have C5 := Lib.hid (Chg.trans C4.out h (fun _ _ h => h)); clear h)
          have HV : mayB true ⟨op, xla, xln, xra, xrn, xn, xu⟩ = true := by unfold mayB; dsimp only; rw [HT.out]; rfl
          go_roundw
          case rel => exact ⟨j + 1, by omega, by go_num, all_take HX.out HA.out HV, C5.out⟩
          case measure => (simp [intOf] <;> omega)
        | false =>
          go_wp2_with (go_at_call 71; refine Calls.mono KH.out ?_; rintro e w5 ⟨rfl, h⟩; have C5 := Lib.hid (Chg.trans C4.out h (fun _ _ h => h)); clear h)
          go_ret
          have HV : mayB false ⟨op, xla, xln, xra, xrn, xn, xu⟩ = false := by unfold mayB; dsimp only; rw [HT.out]; rfl
          exact ⟨by rw [hv.out, all_bad HX.out HV]; rfl, Chg.trans HC3.out C5.out (fun _ _ h => h)⟩
      ·
        have d0 : decide (11 ≤ op) = true := by rw [decide_eq_true_iff]; omega
        have d1 : decide (op ≤ 14) = false := by rw [decide_eq_false_iff_not]; omega
        have d2 : decide (19 ≤ op) = false := by rw [decide_eq_false_iff_not]; omega
        have HT : Hid (timed op = false) := timed_18 h1
        clear h1
        go_wp2_with (go_at_call 71; refine Calls.mono KH.out ?_; rintro e w5 ⟨rfl, h⟩; have C5 := Lib.hid (Chg.trans C4.out h (fun _ _ h => h)); clear h)
        have HV : mayB prop ⟨op, xla, xln, xra, xrn, xn, xu⟩ = true := by unfold mayB; dsimp only; rw [HT.out]; rfl
        go_roundw
        case rel => exact ⟨j + 1, by omega, by go_num, all_take HX.out HA.out HV, C5.out⟩
        case measure => (simp [intOf] <;> omega)
      ·
        have d0 : decide (11 ≤ op) = true := by rw [decide_eq_true_iff]; omega
        have d1 : decide (op ≤ 14) = false := by rw [decide_eq_false_iff_not]; omega
        have d2 : decide (19 ≤ op) = true := by rw [decide_eq_true_iff]; omega
        have HT : Hid (timed op = true) := timed_19 h1
        clear h1
        cases prop with
        | true =>
          go_wp2_with (go_at_call 71; refine Calls.mono KH.out ?_; rintro e w5 ⟨rfl, h⟩; have C5 := Lib.hid (Chg.trans C4.out h (fun _ _ h => h)); clear h)
          have HV : mayB true ⟨op, xla, xln, xra, xrn, xn, xu⟩ = true := by unfold mayB; dsimp only; rw [HT.out]; rfl
          go_roundw
          case rel => exact ⟨j + 1, by omega, by go_num, all_take HX.out HA.out HV, C5.out⟩
          case measure => (simp [intOf] <;> omega)
        | false =>
          go_wp2_with (go_at_call 71; refine Calls.mono KH.out ?_; rintro e w5 ⟨rfl, h⟩; have C5 := Lib.hid (Chg.trans C4.out h (fun _ _ h => h)); clear h)
          go_ret
          have HV : mayB false ⟨op, xla, xln, xra, xrn, xn, xu⟩ = false := by unfold mayB; dsimp only; rw [HT.out]; rfl
          exact ⟨by rw [hv.out, all_bad HX.out HV]; rfl, Chg.trans HC3.out C5.out (fun _ _ h => h)⟩
    · obtain rfl : j = f.length := by omega
      go_wp2
      go_ret
      exact ⟨by rw [hv.out, ← List.take_length (l := f), HA.out]; rfl, Chg.trans HC3.out hC.out (fun _ _ h => h)⟩
/-- What the reference wants of a formula: nothing is named. -/
def bare (m : Emp) (x : Nm.Inst) : Prop := (3 ≤ x.op ∧ x.op ≤ 8 → (-1 ≤ x.la ∧ x.la < m.nA) ∧ (-1 ≤ x.ra ∧ x.ra < m.nA)) ∧ (x.op < 9 ∨ 12 < x.op)
set_option maxRecDepth 100000 in
set_option maxHeartbeats 8000000 in
theorem rbCheck_any (w : World) (m : Emp) (A : Option Addr) (c : Nat) (f : List Nm.Inst) (prop : Bool) (hL : Lens m) (hl : f.length ≤ 64) (hr : Rd w w.heap.size A (f.flatMap instV7)) (hf : ∀ x ∈ f, bare m x) :
    Calls Try.prog 52 #[modV m, .slice A f.length c, .bool prop] w fun e w' => e = .returned (.bool (chkB f prop)) ∧ Chg (fun _ => False) w w' := by
  have HR := Lib.hid hr
  have HF := Lib.hid hf
  have HL := Lib.hid hL
  clear hr hf hL
  obtain ⟨i70, hi70, hz0, hz1, hz2⟩ := info_parts item70
  have hb := Blk.new w 95 (modA m)
  have hC0 := (Chg.refl (fun _ => False) w).alloc (.cells (modA m) 95)
  unfold modV modA
  go_enter Try.func52, Try.ntmps52
  go_wp2
  obtain ⟨w1, hw1⟩ : ∃ w1, w1 = w.alloc (.cells (modA m) 95) := ⟨_, rfl⟩
  rw [← hw1] at hb hC0
  unfold modA at hw1
  rw [← hw1]
  clear hw1
  obtain ⟨g, hg⟩ : ∃ g, g = w.heap.size := ⟨_, rfl⟩
  rw [← hg] at hb ⊢
  clear hg
  have HB := Lib.hid hb
  have HC := Lib.hid hC0
  clear hb hC0
  go_loopw [8, 7] (fun i v wr => ∃ j : Nat, j ≤ f.length ∧ i = .int .i64 j ∧ Hid (Items w1 wr f j v)) (fun i _ _ => f.length - (intOf i).toNat)
  case atStart => exact ⟨0, Nat.zero_le _, rfl, Items.start w1 f⟩
  case round =>
    obtain ⟨j, hj, rfl, hM⟩ := hrel
    by_cases hlt : j < f.length
    · obtain ⟨x, hx⟩ : ∃ x, f[j]? = some x := ⟨_, List.getElem?_eq_getElem hlt⟩
      obtain ⟨xb, o, hA, hxb, c0, c1, c2, c3, c4, c5, c6⟩ := ins_at ((HR.out.chg HC.out (Nat.le_refl _) (fun _ h => h.elim)).chg hM.out.chg HC.out.size (fun _ h => h.elim)) hx
      subst hA
      have HX := Lib.hid hx
      have hsz := hM.out.chg.size
      clear hx
      go_wp2_with (at_builtin; refine wpList_append_lies _ rfl (.tmp 21) (.tmp 28) 33 rfl w1.heap.size 70 i70 _ 9 104 Try.underlying33 hi70 hz0 hz1 hz2 rfl (by omega) u7 j (cellsI (itemsUp f j)) rfl (by exact World.ownsRow.alloc hM.out.own _) ⟨wr.heap.size, 0, none⟩ 1 1 (itemC (toItem x)) rfl rfl (by exact all_new (Blk.new wr 70 (itemA (toItem x)))) (by intro u hu; rw [itemC_to] at hu; simp at hu; rcases hu with rfl | rfl | rfl | rfl | rfl | rfl | rfl | rfl | rfl <;> rfl) (by omega) (by unfold maxLen; omega) (by omega) (by simp; omega) (wr.heap.size + 1) (by simp) ?_; intro g' cap w3 hown3 hg3 hat3 hlt3; have HI3 := Lib.hid (hM.out.more HX.out ((Chg.refl _ wr).alloc _) hown3 hg3); clear hown3 hg3 hat3 hlt3)
      clear c0 c1 c2 c3 c4 c5 c6 hsz
      go_roundw
      case rel => exact ⟨j + 1, by omega, by go_num, HI3⟩
      case measure => (simp [intOf] <;> omega)
    · obtain rfl : j = f.length := by omega
      clear hlt hj
      obtain ⟨A5, cap5, h5, _, _⟩ := own_slice hM.out.own
      have hown := hM.out.own
      rw [h5, itemsUp_all] at hown
      have hck := refCheck_any' wr A5 cap5 (f.map toItem) (by rw [List.length_map]; unfold maxLen; omega) (own_rdN hown)
      rw [List.length_map] at hck
      replace hck : Hid (Calls Try.prog 31 #[.slice A5 f.length cap5] wr fun e w' => e = .returned (.int .i64 (Tr.check (sgI f) f.length)) ∧ wr = w') := hck
      have HC3 := Lib.hid (Chg.trans HC.out hM.out.chg (fun _ _ h => h))
      have HB3 := Lib.hid (HB.out.chg hM.out.chg (fun h => h))
      rw [h5]
      clear hown hM h5 hi70 hz0 hz1 hz2
      obtain ⟨ck, hckv⟩ : ∃ ck, ck = Tr.check (sgI f) f.length := ⟨_, rfl⟩
      rw [← hckv] at hck
      have HCV := Lib.hid hckv
      clear hckv
      by_cases hc0 : ck = 0
      case neg =>
        have d1 : (ck != 0) = true := by simpa using hc0
        have hv : Hid (chkB f prop = false) := by show _ = _; unfold chkB; rw [decide_eq_false (by rw [← HCV.out]; exact hc0)]; rfl
        go_wp2_with (go_at_call 31; refine Calls.mono hck.out ?_; rintro e w3 ⟨rfl, rfl⟩)
        go_ret
        exact ⟨by rw [hv.out]; rfl, HC3.out⟩
      subst hc0
      have hv : Hid (chkB f prop = f.all (mayB prop)) := by show _ = _; unfold chkB; rw [decide_eq_true HCV.out.symm]; rfl
      go_wp2_with (go_at_call 31; refine Calls.mono hck.out ?_; rintro e w3 ⟨rfl, rfl⟩)
      clear hck
      obtain ⟨w3, hw3⟩ : ∃ w3, w3 = wr := ⟨_, rfl⟩
      rw [← hw3] at HC3 HB3 ⊢
      clear hw3
      go_loopw [9] (fun i wr => ∃ j : Nat, j ≤ f.length ∧ i = .int .i64 j ∧ Hid ((f.take j).all (mayB prop) = true) ∧ Hid (Chg (fun _ => False) w3 wr)) (fun i _ => f.length - (intOf i).toNat)
      case atStart => exact ⟨0, Nat.zero_le _, rfl, rfl, Chg.refl _ _⟩
      case round =>
        obtain ⟨j, hj, rfl, HA, hC⟩ := hrel
        by_cases hlt : j < f.length
        · obtain ⟨x, hx⟩ : ∃ x, f[j]? = some x := ⟨_, List.getElem?_eq_getElem hlt⟩
          obtain ⟨xb, o, hA, hxb, c0, c1, c2, c3, c4, c5, c6⟩ := ins_at ((HR.out.chg HC3.out (Nat.le_refl _) (fun _ h => h.elim)).chg hC.out HC3.out.size (fun _ h => h.elim)) hx
          subst hA
          have HX := Lib.hid hx
          have HFX := Lib.hid (HF.out x (List.mem_of_getElem? hx))
          obtain ⟨e0, e1, e2, e3, e4, e5, e6, e7, e8, e9⟩ := mod_cells (HB3.out.chg hC.out (fun h => h))
          clear hx
          obtain ⟨op, xla, xln, xra, xrn, xn, xu⟩ := x
          dsimp only at c0 c1 c2 c3 c4 c5 c6
          go_upto_region 12 with fail
          have KH := Lib.hid (fun (n : KW wr) => kept_call (rhas_true n.w m ⟨op, xla, xln, xra, xrn, xn, xu⟩ HL.out HFX.out.1 HFX.out.2))
          unfold modV modA instA7 at KH
          replace e0 := kept_cell e0
          replace e1 := kept_cell e1
          replace e2 := kept_cell e2
          replace e3 := kept_cell e3
          replace e4 := kept_cell e4
          replace e5 := kept_cell e5
          replace e6 := kept_cell e6
          replace e7 := kept_cell e7
          replace e8 := kept_cell e8
          replace e9 := kept_cell e9
          replace c0 := kept_cell c0
          replace c1 := kept_cell c1
          replace c2 := kept_cell c2
          replace c3 := kept_cell c3
          replace c4 := kept_cell c4
          replace c5 := kept_cell c5
          replace c6 := kept_cell c6
          rcases (by omega : op < 11 ∨ (11 ≤ op ∧ op ≤ 14) ∨ (14 < op ∧ op < 19) ∨ 19 ≤ op) with h1 | h1 | h1 | h1
          ·
            have d0 : decide (18 < op) = false := by rw [decide_eq_false_iff_not]; omega
            have d1 : decide (10 < op) = false := by rw [decide_eq_false_iff_not]; omega
            have HT : Hid (timed op = false) := timed_11 h1
            clear h1
            cases prop with
            | true =>
              refine wp_region_kept wr (Chg.refl _ _) (by kernel_rfl) (by kernel_rfl) ?_
              repeat (go_big_quiet_step (exact KH.out _))
              refine wpQuiet_nil ?_
              rintro _ ⟨n4, rfl⟩
              have C5 := Lib.hid (Chg.trans hC.out n4.h (fun _ _ h => h))
              clear e0 e1 e2 e3 e4 e5 e6 e7 e8 e9 c0 c1 c2 c3 c4 c5 c6
              go_wp2
              have HV : mayB true ⟨op, xla, xln, xra, xrn, xn, xu⟩ = true := by unfold mayB; dsimp only; rw [HT.out]; rfl
              go_roundw
              case rel => exact ⟨j + 1, by omega, by go_num, all_take HX.out HA.out HV, C5.out⟩
              case measure => (simp [intOf] <;> omega)
            | false =>
              refine wp_region_kept wr (Chg.refl _ _) (by kernel_rfl) (by kernel_rfl) ?_
              repeat (go_big_quiet_step (exact KH.out _))
              refine wpQuiet_nil ?_
              rintro _ ⟨n4, rfl⟩
              have C5 := Lib.hid (Chg.trans hC.out n4.h (fun _ _ h => h))
              clear e0 e1 e2 e3 e4 e5 e6 e7 e8 e9 c0 c1 c2 c3 c4 c5 c6
              go_wp2
              have HV : mayB false ⟨op, xla, xln, xra, xrn, xn, xu⟩ = true := by unfold mayB; dsimp only; rw [HT.out]; rfl
              go_roundw
              case rel => exact ⟨j + 1, by omega, by go_num, all_take HX.out HA.out HV, C5.out⟩
              case measure => (simp [intOf] <;> omega)
          ·
            have d0 : decide (18 < op) = false := by rw [decide_eq_false_iff_not]; omega
            have d1 : decide (10 < op) = true := by rw [decide_eq_true_iff]; omega
            have d2 : decide (op < 15) = true := by rw [decide_eq_true_iff]; omega
            have HT : Hid (timed op = true) := timed_14 h1
            clear h1
            cases prop with
            | true =>
              refine wp_region_kept wr (Chg.refl _ _) (by kernel_rfl) (by kernel_rfl) ?_
              repeat (go_big_quiet_step (exact KH.out _))
              refine wpQuiet_nil ?_
              rintro _ ⟨n4, rfl⟩
              have C5 := Lib.hid (Chg.trans hC.out n4.h (fun _ _ h => h))
              clear e0 e1 e2 e3 e4 e5 e6 e7 e8 e9 c0 c1 c2 c3 c4 c5 c6
              go_wp2
              have HV : mayB true ⟨op, xla, xln, xra, xrn, xn, xu⟩ = true := by unfold mayB; dsimp only; rw [HT.out]; rfl
              go_roundw
              case rel => exact ⟨j + 1, by omega, by go_num, all_take HX.out HA.out HV, C5.out⟩
              case measure => (simp [intOf] <;> omega)
            | false =>
              refine wp_region_kept wr (Chg.refl _ _) (by kernel_rfl) (by kernel_rfl) ?_
              repeat (go_big_quiet_step (exact KH.out _))
              refine wpQuiet_nil ?_
              rintro _ ⟨n4, rfl⟩
              have C5 := Lib.hid (Chg.trans hC.out n4.h (fun _ _ h => h))
              clear e0 e1 e2 e3 e4 e5 e6 e7 e8 e9 c0 c1 c2 c3 c4 c5 c6
              go_wp2
              go_ret
              have HV : mayB false ⟨op, xla, xln, xra, xrn, xn, xu⟩ = false := by unfold mayB; dsimp only; rw [HT.out]; rfl
              exact ⟨by rw [hv.out, all_bad HX.out HV]; rfl, Chg.trans HC3.out C5.out (fun _ _ h => h)⟩
          ·
            have d0 : decide (18 < op) = false := by rw [decide_eq_false_iff_not]; omega
            have d1 : decide (10 < op) = true := by rw [decide_eq_true_iff]; omega
            have d2 : decide (op < 15) = false := by rw [decide_eq_false_iff_not]; omega
            have HT : Hid (timed op = false) := timed_18 h1
            clear h1
            cases prop with
            | true =>
              refine wp_region_kept wr (Chg.refl _ _) (by kernel_rfl) (by kernel_rfl) ?_
              repeat (go_big_quiet_step (exact KH.out _))
              refine wpQuiet_nil ?_
              rintro _ ⟨n4, rfl⟩
              have C5 := Lib.hid (Chg.trans hC.out n4.h (fun _ _ h => h))
              clear e0 e1 e2 e3 e4 e5 e6 e7 e8 e9 c0 c1 c2 c3 c4 c5 c6
              go_wp2
              have HV : mayB true ⟨op, xla, xln, xra, xrn, xn, xu⟩ = true := by unfold mayB; dsimp only; rw [HT.out]; rfl
              go_roundw
              case rel => exact ⟨j + 1, by omega, by go_num, all_take HX.out HA.out HV, C5.out⟩
              case measure => (simp [intOf] <;> omega)
            | false =>
              refine wp_region_kept wr (Chg.refl _ _) (by kernel_rfl) (by kernel_rfl) ?_
              repeat (go_big_quiet_step (exact KH.out _))
              refine wpQuiet_nil ?_
              rintro _ ⟨n4, rfl⟩
              have C5 := Lib.hid (Chg.trans hC.out n4.h (fun _ _ h => h))
              clear e0 e1 e2 e3 e4 e5 e6 e7 e8 e9 c0 c1 c2 c3 c4 c5 c6
              go_wp2
              have HV : mayB false ⟨op, xla, xln, xra, xrn, xn, xu⟩ = true := by unfold mayB; dsimp only; rw [HT.out]; rfl
              go_roundw
              case rel => exact ⟨j + 1, by omega, by go_num, all_take HX.out HA.out HV, C5.out⟩
              case measure => (simp [intOf] <;> omega)
          ·
            have d0 : decide (18 < op) = true := by rw [decide_eq_true_iff]; omega
            have HT : Hid (timed op = true) := timed_19 h1
            clear h1
            cases prop with
            | true =>
              refine wp_region_kept wr (Chg.refl _ _) (by kernel_rfl) (by kernel_rfl) ?_
              repeat (go_big_quiet_step (exact KH.out _))
              refine wpQuiet_nil ?_
              rintro _ ⟨n4, rfl⟩
              have C5 := Lib.hid (Chg.trans hC.out n4.h (fun _ _ h => h))
              clear e0 e1 e2 e3 e4 e5 e6 e7 e8 e9 c0 c1 c2 c3 c4 c5 c6
              go_wp2
              have HV : mayB true ⟨op, xla, xln, xra, xrn, xn, xu⟩ = true := by unfold mayB; dsimp only; rw [HT.out]; rfl
              go_roundw
              case rel => exact ⟨j + 1, by omega, by go_num, all_take HX.out HA.out HV, C5.out⟩
              case measure => (simp [intOf] <;> omega)
            | false =>
              refine wp_region_kept wr (Chg.refl _ _) (by kernel_rfl) (by kernel_rfl) ?_
              repeat (go_big_quiet_step (exact KH.out _))
              refine wpQuiet_nil ?_
              rintro _ ⟨n4, rfl⟩
              have C5 := Lib.hid (Chg.trans hC.out n4.h (fun _ _ h => h))
              clear e0 e1 e2 e3 e4 e5 e6 e7 e8 e9 c0 c1 c2 c3 c4 c5 c6
              go_wp2
              go_ret
              have HV : mayB false ⟨op, xla, xln, xra, xrn, xn, xu⟩ = false := by unfold mayB; dsimp only; rw [HT.out]; rfl
              exact ⟨by rw [hv.out, all_bad HX.out HV]; rfl, Chg.trans HC3.out C5.out (fun _ _ h => h)⟩
        · obtain rfl : j = f.length := by omega
          go_wp2
          go_ret
          exact ⟨by rw [hv.out, ← List.take_length (l := f), HA.out]; rfl, Chg.trans HC3.out hC.out (fun _ _ h => h)⟩
end Go.Proofs.Ytpppgnphblbbcaa
