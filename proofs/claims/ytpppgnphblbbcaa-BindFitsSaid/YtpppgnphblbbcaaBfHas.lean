/- The walks of has, the program's and the reference's, where what is named is there. -/
import Derived.Test.YtpppgnphblbbcaaNoItems
import Derived.Test.YtpppgnphblbbcaaNoSign
namespace Go.Proofs.Ytpppgnphblbbcaa
open Go.RowKit

/-- A model of empty things. -/
structure Emp where
  aA : Option Addr
  nA : Nat
  cA : Nat
  aU : Option Addr
  nU : Nat
  cU : Nat
  aS : Option Addr
  nS : Nat
  cS : Nat
  aE : Option Addr
  nE : Nat
  cE : Nat
  aM : Option Addr
  nM : Nat
  cM : Nat
def modA (m : Emp) : Array Value := #[.slice m.aA m.nA m.cA, .slice none 0 0, .slice m.aU m.nU m.cU, .slice none 0 0, .slice m.aS m.nS m.cS, .slice m.aE m.nE m.cE, .slice none 0 0, .slice m.aM m.nM m.cM, .slice none 0 0, .slice none 0 0]
def emp0 : Emp := ⟨none, 0, 0, none, 0, 0, none, 0, 0, none, 0, 0, none, 0, 0⟩
def modV (m : Emp) : Value := .agg (modA m)
theorem mod_cells {w : World} {g : Nat} {m : Emp} (h : Blk w g 95 (modA m)) : w.cell? ⟨g, 0, none⟩ = some (.slice m.aA m.nA m.cA) ∧ w.cell? ⟨g, 1, none⟩ = some (.slice none 0 0) ∧ w.cell? ⟨g, 2, none⟩ = some (.slice m.aU m.nU m.cU) ∧ w.cell? ⟨g, 3, none⟩ = some (.slice none 0 0) ∧ w.cell? ⟨g, 4, none⟩ = some (.slice m.aS m.nS m.cS) ∧ w.cell? ⟨g, 5, none⟩ = some (.slice m.aE m.nE m.cE) ∧ w.cell? ⟨g, 6, none⟩ = some (.slice none 0 0) ∧ w.cell? ⟨g, 7, none⟩ = some (.slice m.aM m.nM m.cM) ∧ w.cell? ⟨g, 8, none⟩ = some (.slice none 0 0) ∧ w.cell? ⟨g, 9, none⟩ = some (.slice none 0 0) := by
  refine ⟨?_, ?_, ?_, ?_, ?_, ?_, ?_, ?_, ?_, ?_⟩ <;> rw [h.cell] <;> rfl
/-- What an instruction names is there. -/
def fitI (m : Emp) (x : Nm.Inst) : Prop :=
  (3 ≤ x.op ∧ x.op ≤ 8 → (-1 ≤ x.la ∧ x.la < m.nA) ∧ (-1 ≤ x.ra ∧ x.ra < m.nA)) ∧ (x.op = 9 → 0 ≤ x.n ∧ x.n < m.nS) ∧ (x.op = 10 → 0 ≤ x.n ∧ x.n < m.nM) ∧ (x.op = 11 → 0 ≤ x.n ∧ x.n < m.nE) ∧ (x.op = 12 → (0 ≤ x.n ∧ x.n < m.nE) ∧ (0 ≤ x.user ∧ x.user < m.nU))
structure Lens (m : Emp) : Prop where
  a : m.nA ≤ 1000
  u : m.nU ≤ 1000
  s : m.nS ≤ 1000
  e : m.nE ≤ 1000
  m : m.nM ≤ 1000
set_option maxRecDepth 100000 in
theorem attr_any (w : World) (a n : Int) (g : Nat) (A : Option Addr) (c k : Nat) (_hk : k ≤ 1000) (hg : w.cell? ⟨g, 0, none⟩ = some (.slice A k c)) (ha : -1 ≤ a ∧ a < k) : Calls Try.prog 89 #[.agg #[.int .i64 a, .int .i64 n], .pointer (some ⟨g, 0, none⟩)] w fun e w' => e = .returned (.bool true) ∧ Chg (fun _ => False) w w' := by
  have HC := Lib.hid ((Chg.refl (fun _ => False) w).alloc (.cells #[.int .i64 a, .int .i64 n] 75))
  have hl := World.block_lt_of_cell? w _ hg
  have y0 : (w.alloc (.cells #[.int .i64 a, .int .i64 n] 75)).cell? ⟨g, 0, none⟩ = some (.slice A k c) := by rw [World.cell?_alloc_lt _ _ _ hl]; exact hg
  have d1 : decide (-1 ≤ a) = true := by rw [decide_eq_true_iff]; exact ha.1
  have d2 : decide (a < (k : Int)) = true := by rw [decide_eq_true_iff]; exact ha.2
  clear ha hg
  go_enter Try.func89, Try.ntmps89
  go_wp2
  go_ret
  exact ⟨rfl, HC.out⟩
theorem most_in (w : World) (n k : Int) (h : 0 ≤ n ∧ n < k) : Calls Try.prog 90 #[.int .i64 n, .int .i64 k] w fun e w' => e = .returned (.bool true) ∧ w = w' := by
  have d1 : decide (0 ≤ n) = true := by rw [decide_eq_true_iff]; exact h.1
  have d2 : decide (n < k) = true := by rw [decide_eq_true_iff]; exact h.2
  clear h
  go_enter Try.func90, Try.ntmps90
  go_wp2
  go_ret
  exact ⟨rfl, rfl⟩
set_option maxRecDepth 100000 in
set_option maxHeartbeats 4000000 in
theorem has_true (w : World) (m : Emp) (x : Nm.Inst) (hL : Lens m) (hf : fitI m x) : Calls Try.prog 71 #[modV m, .agg (instA7 x)] w fun e w' => e = .returned (.bool true) ∧ Chg (fun _ => False) w w' := by
  obtain ⟨la, lu, ls, le, lm⟩ := hL
  have hb := Blk.new w 95 (modA m)
  have hi := blk_new2 w (.cells (modA m) 95) 77 (instA7 x)
  have hC0 := ((Chg.refl (fun _ => False) w).alloc (.cells (modA m) 95)).alloc (.cells (instA7 x) 77)
  have hmf : ∀ (fn : Fn) (first cap : Array Value) (w : World), (Instr.makeFunc fn first cap).run Try.prog w = .ok (.func fn first cap) w := fun _ _ _ _ => rfl
  obtain ⟨f1, f2, f3, f4, f5⟩ := hf
  obtain ⟨op, xla, xln, xra, xrn, xn, xu⟩ := x
  dsimp only at f1 f2 f3 f4 f5
  have KC := Lib.hid (fun w => compares_any w op)
  unfold modV modA instA7
  go_enter Try.func71, Try.ntmps71
  go_upto_region 1 with fail
  obtain ⟨w1, hw1⟩ : ∃ w1, w1 = (w.alloc (.cells (modA m) 95)).alloc (.cells (instA7 ⟨op, xla, xln, xra, xrn, xn, xu⟩) 77) := ⟨_, rfl⟩
  replace hb := hb.alloc (.cells (instA7 ⟨op, xla, xln, xra, xrn, xn, xu⟩) 77)
  rw [← hw1] at hb hi hC0
  unfold modA instA7 at hw1
  rw [← hw1]
  clear hw1
  obtain ⟨k, hk⟩ : ∃ k, k = w.heap.size + 1 := ⟨_, rfl⟩
  rw [← hk] at hi ⊢
  clear hk
  obtain ⟨g, hg⟩ : ∃ g, g = w.heap.size := ⟨_, rfl⟩
  rw [← hg] at hb ⊢
  clear hg
  obtain ⟨e0, e1, e2, e3, e4, e5, e6, e7, e8, e9⟩ := mod_cells hb
  obtain ⟨x0, x1, x2, x3, x4, x5, x6⟩ := inst_cells hi
  dsimp only at x0 x1 x2 x3 x4 x5 x6
  have HB := Lib.hid hb
  have HI := Lib.hid hi
  have HC := Lib.hid hC0
  clear hb hi hC0
  rcases (by omega : (3 ≤ op ∧ op ≤ 8) ∨ op = 9 ∨ op = 10 ∨ op = 11 ∨ op = 12 ∨ (¬ (3 ≤ op ∧ op ≤ 8) ∧ op ≠ 9 ∧ op ≠ 10 ∧ op ≠ 11 ∧ op ≠ 12)) with h1 | rfl | rfl | rfl | rfl | h1
  · have hcm : decide (3 ≤ op ∧ op ≤ 8) = true := by rw [decide_eq_true_iff]; exact h1
    rw [hcm] at KC
    obtain ⟨ha, hb⟩ := f1 h1
    have HA := Lib.hid (attr_any w1 xla xln g m.aA m.cA m.nA la e0 ha)
    have HR := Lib.hid hb
    clear h1 hcm f1 f2 f3 f4 f5 ha hb
    go_wp2_with (go_at_call 75; refine Calls.mono (KC.out _) ?_; rintro e w' ⟨rfl, rfl⟩)
    refine Calls.mono HA.out ?_
    rintro e w2 ⟨rfl, h⟩
    have HC2 := Lib.hid (Chg.trans HC.out h (fun _ _ h => h))
    have HB2 := Lib.hid (HB.out.chg h (fun h => h))
    have HI2 := Lib.hid (HI.out.chg h (fun h => h))
    clear h e0 e1 e2 e3 e4 e5 e6 e7 e8 e9 x0 x1 x2 x3 x4 x5 x6
    obtain ⟨e0, e1, e2, e3, e4, e5, e6, e7, e8, e9⟩ := mod_cells HB2.out
    obtain ⟨x0, x1, x2, x3, x4, x5, x6⟩ := inst_cells HI2.out
    dsimp only at x0 x1 x2 x3 x4 x5 x6
    have HA2 := Lib.hid (attr_any w2 xra xrn g m.aA m.cA m.nA la e0 HR.out)
    go_wp2_with fail
    refine Calls.mono HA2.out ?_
    rintro e w3 ⟨rfl, h⟩
    have HC3 := Lib.hid (Chg.trans HC2.out h (fun _ _ h => h))
    clear h
    go_wp2
    go_ret
    exact ⟨rfl, HC3.out⟩
  · have hcm : decide ((3 : Int) ≤ 9 ∧ (9 : Int) ≤ 8) = false := by decide
    rw [hcm] at KC
    have HN := Lib.hid (most_in w1 xn m.nS (f2 rfl))
    clear hcm f1 f2 f3 f4 f5
    go_wp2_with (first | (go_at_call 75; refine Calls.mono (KC.out _) ?_; rintro e w' ⟨rfl, rfl⟩) | (go_at_call 90; refine Calls.mono HN.out ?_; rintro e w' ⟨rfl, rfl⟩))
    go_ret
    exact ⟨rfl, HC.out⟩
  · have hcm : decide ((3 : Int) ≤ 10 ∧ (10 : Int) ≤ 8) = false := by decide
    rw [hcm] at KC
    have HN := Lib.hid (most_in w1 xn m.nM (f3 rfl))
    clear hcm f1 f2 f3 f4 f5
    go_wp2_with (first | (go_at_call 75; refine Calls.mono (KC.out _) ?_; rintro e w' ⟨rfl, rfl⟩) | (go_at_call 90; refine Calls.mono HN.out ?_; rintro e w' ⟨rfl, rfl⟩))
    go_ret
    exact ⟨rfl, HC.out⟩
  · have hcm : decide ((3 : Int) ≤ 11 ∧ (11 : Int) ≤ 8) = false := by decide
    rw [hcm] at KC
    have HN := Lib.hid (most_in w1 xn m.nE (f4 rfl))
    clear hcm f1 f2 f3 f4 f5
    go_wp2_with (first | (go_at_call 75; refine Calls.mono (KC.out _) ?_; rintro e w' ⟨rfl, rfl⟩) | (go_at_call 90; refine Calls.mono HN.out ?_; rintro e w' ⟨rfl, rfl⟩))
    go_ret
    exact ⟨rfl, HC.out⟩
  · have hcm : decide ((3 : Int) ≤ 12 ∧ (12 : Int) ≤ 8) = false := by decide
    rw [hcm] at KC
    have HN := Lib.hid (most_in w1 xn m.nE (f5 rfl).1)
    have HU := Lib.hid (most_in w1 xu m.nU (f5 rfl).2)
    clear hcm f1 f2 f3 f4 f5
    go_wp2_with (go_at_call 75; refine Calls.mono (KC.out _) ?_; rintro e w' ⟨rfl, rfl⟩)
    refine Calls.mono HN.out ?_
    rintro e w' ⟨rfl, rfl⟩
    go_wp2_with fail
    refine Calls.mono HU.out ?_
    rintro e w' ⟨rfl, rfl⟩
    go_wp2
    go_ret
    exact ⟨rfl, HC.out⟩
  · obtain ⟨h0, h9, h10, h11, h12⟩ := h1
    have hcm : decide (3 ≤ op ∧ op ≤ 8) = false := by rw [decide_eq_false_iff_not]; exact h0
    rw [hcm] at KC
    have k9 : (op == 9) = false := by simpa using h9
    have k10 : (op == 10) = false := by simpa using h10
    have k11 : (op == 11) = false := by simpa using h11
    have k12 : (op == 12) = false := by simpa using h12
    clear hcm f1 f2 f3 f4 f5 h0 h9 h10 h11 h12
    go_wp2_with (go_at_call 75; refine Calls.mono (KC.out _) ?_; rintro e w' ⟨rfl, rfl⟩)
    go_ret
    exact ⟨rfl, HC.out⟩
set_option maxRecDepth 100000 in
set_option maxHeartbeats 4000000 in
theorem rhas_true (w : World) (m : Emp) (x : Nm.Inst) (hL : Lens m) (hf : 3 ≤ x.op ∧ x.op ≤ 8 → (-1 ≤ x.la ∧ x.la < m.nA) ∧ (-1 ≤ x.ra ∧ x.ra < m.nA)) (hno : x.op < 9 ∨ 12 < x.op) : Calls Try.prog 72 #[modV m, .agg (instA7 x)] w fun e w' => e = .returned (.bool true) ∧ Chg (fun _ => False) w w' := by
  obtain ⟨la, lu, ls, le, lm⟩ := hL
  have HC := Lib.hid (((Chg.refl (fun _ => False) w).alloc (.cells (modA m) 95)).alloc (.cells (instA7 x) 77))
  obtain ⟨op, xla, xln, xra, xrn, xn, xu⟩ := x
  dsimp only at hf hno
  unfold modV
  unfold modA instA7 at HC ⊢
  dsimp only at HC ⊢
  rcases (by omega : (3 ≤ op ∧ op ≤ 8) ∨ op < 3 ∨ 12 < op) with h1 | h1 | h1
  · obtain ⟨⟨a1, a2⟩, ⟨b1, b2⟩⟩ := hf h1
    have d1 : decide (3 ≤ op) = true := by rw [decide_eq_true_iff]; omega
    have d2 : decide (op ≤ 8) = true := by rw [decide_eq_true_iff]; omega
    have d3 : decide (-1 ≤ xla) = true := by rw [decide_eq_true_iff]; omega
    have d4 : decide (xla < (m.nA : Int)) = true := by rw [decide_eq_true_iff]; omega
    have d5 : decide (-1 ≤ xra) = true := by rw [decide_eq_true_iff]; omega
    have d6 : decide (xra < (m.nA : Int)) = true := by rw [decide_eq_true_iff]; omega
    clear hf hno h1 a1 a2 b1 b2
    go_enter Try.func72, Try.ntmps72
    go_wp2
    go_ret
    exact ⟨rfl, HC.out⟩
  · have d1 : decide (3 ≤ op) = false := by rw [decide_eq_false_iff_not]; omega
    have d2 : decide (op < 9) = true := by rw [decide_eq_true_iff]; omega
    clear hf hno h1
    go_enter Try.func72, Try.ntmps72
    go_wp2
    go_ret
    exact ⟨rfl, HC.out⟩
  · have d1 : decide (3 ≤ op) = true := by rw [decide_eq_true_iff]; omega
    have d2 : decide (op ≤ 8) = false := by rw [decide_eq_false_iff_not]; omega
    have d3 : decide (op < 9) = false := by rw [decide_eq_false_iff_not]; omega
    have d4 : decide (12 < op) = true := by rw [decide_eq_true_iff]; omega
    clear hf hno h1
    go_enter Try.func72, Try.ntmps72
    go_wp2
    go_ret
    exact ⟨rfl, HC.out⟩
end Go.Proofs.Ytpppgnphblbbcaa
