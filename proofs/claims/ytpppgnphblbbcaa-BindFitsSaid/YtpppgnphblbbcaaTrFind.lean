/- The walks of first, find, part, Check, Deep, Start, Kids. -/
import Derived.Test.YtpppgnphblbbcaaTrNode
import Derived.Test.YtpppgnphblbbcaaTrBuilt
namespace Go.Proofs.Ytpppgnphblbbcaa
open Go.RowKit

theorem as_leaf1 (c : Value) (w : World) : (Instr.typeAssert (.iface 150 (.agg #[c])) 116 124 true).run Try.prog w = .ok (.tuple #[.agg #[.int .i64 0, .nilIface], .bool false]) w := by kernel_rfl
theorem as_leaf2 (c : Value) (w : World) : (Instr.typeAssert (.iface 150 (.agg #[c])) 116 126 true).run Try.prog w = .ok (.tuple #[.agg #[.int .i64 0, .nilIface, .nilIface], .bool false]) w := by kernel_rfl
theorem as_one1 (c d : Value) (w : World) : (Instr.typeAssert (.iface 124 (.agg #[c, d])) 116 124 true).run Try.prog w = .ok (.tuple #[.agg #[c, d], .bool true]) w := by kernel_rfl
theorem as_two1 (c d e : Value) (w : World) : (Instr.typeAssert (.iface 126 (.agg #[c, d, e])) 116 124 true).run Try.prog w = .ok (.tuple #[.agg #[.int .i64 0, .nilIface], .bool false]) w := by kernel_rfl
theorem as_two2 (c d e : Value) (w : World) : (Instr.typeAssert (.iface 126 (.agg #[c, d, e])) 116 126 true).run Try.prog w = .ok (.tuple #[.agg #[c, d, e], .bool true]) w := by kernel_rfl
theorem method_end_leaf (a : Nat) (w : World) : (method 284 150 (.agg #[.int .i64 a]) "warder/tree.end").run Try.prog w = .ok (112, .agg #[.int .i64 a]) w := method_end (.leaf a) w
theorem size_one (a : Nat) (x : Tr.T) : SizeOf.sizeOf (valT x) < SizeOf.sizeOf (valT (.one a x)) := by
  rw [show valT (.one a x) = .iface 124 (.agg #[.int .i64 a, valT x]) from rfl]; simp; omega
theorem size_two (a : Nat) (x y : Tr.T) : SizeOf.sizeOf (valT x) < SizeOf.sizeOf (valT (.two a x y)) := by
  rw [show valT (.two a x y) = .iface 126 (.agg #[.int .i64 a, valT x, valT y]) from rfl]; simp; omega
set_option maxRecDepth 100000 in
set_option maxHeartbeats 2000000 in
theorem first_any (t : Tr.T) (w : World) : Calls Try.prog 62 #[valT t] w fun e w' => e = .returned (.int .i64 t.first) ∧ Chg (fun _ => False) w w' := by
  have q1 := as_leaf1
  have q2 := as_leaf2
  have q3 := as_one1
  have q4 := as_two1
  have q5 := as_two2
  go_enter Try.func62, Try.ntmps62
  go_wp2
  go_loopw [0] (fun v wr => ∃ x : Tr.T, Hid (v = valT x) ∧ Hid (x.first = t.first) ∧ Hid (Chg (fun _ => False) w wr)) (fun v _ => SizeOf.sizeOf v)
  case atStart => exact ⟨t, rfl, rfl, Chg.refl _ _⟩
  case round =>
    obtain ⟨x, hv0, hf, hC⟩ := hrel
    have hv := hv0.out
    clear hv0
    cases x with
    | leaf a =>
      have hm := method_end_leaf a
      replace hv : _ = Value.iface 150 (.agg #[.int .i64 a]) := hv
      subst hv
      go_wp2_with (go_at_call 112; refine (end_leaf a _).mono ?_; rintro e w' ⟨rfl, h⟩; have HC := Lib.hid h; clear h)
      go_ret
      exact ⟨by rw [← hf.out]; rfl, Chg.trans hC.out HC.out (fun _ _ h => h)⟩
    | one a y =>
      have hz := Lib.hid (size_one a y)
      rw [valT_one] at hv
      subst hv
      go_wp2
      go_roundw
      case rel => exact ⟨y, Lib.hid (valT_eq y).symm, hf, Lib.hid (hC.out.alloc _)⟩
      case measure =>
        have h := hz.out
        rw [valT_one, valT_eq] at h
        exact h
    | two a y z =>
      have hz := Lib.hid (size_two a y z)
      rw [valT_two] at hv
      subst hv
      go_wp2
      go_roundw
      case rel => exact ⟨y, Lib.hid (valT_eq y).symm, hf, Lib.hid (hC.out.alloc _)⟩
      case measure =>
        have h := hz.out
        rw [valT_two, valT_eq] at h
        exact h
theorem two_cells {S : Nat → Prop} {w1 w2 : World} {o : Obj} {cs : Array Value} {t : TypeId} (h : Chg S ((w1.alloc o).alloc (.cells cs t)) w2) (hS : ∀ k, ¬ S k) (i : Nat) {u : Value} (hu : cs[i]? = some u) : w2.cell? ⟨w1.heap.size + 1, i, none⟩ = some u := by
  have e : (w1.alloc o).heap.size = w1.heap.size + 1 := by simp
  rw [h.cell (by simp) (hS _), ← e, (Blk.new (w1.alloc o) t cs).cell]
  exact hu
theorem cell_one (a : Nat) (x : Tr.T) : cellT (.one a x) = #[.int .i64 a, .iface (typT x) (.agg (cellT x))] := by rw [← valT_eq]; rfl
theorem cell_two (a : Nat) (x y : Tr.T) : cellT (.two a x y) = #[.int .i64 a, .iface (typT x) (.agg (cellT x)), .iface (typT y) (.agg (cellT y))] := by rw [← valT_eq, ← valT_eq]; rfl
theorem method_end_one (a : Nat) (x : Tr.T) (w : World) : (method 284 124 (.agg #[.int .i64 a, .iface (typT x) (.agg (cellT x))]) "warder/tree.end").run Try.prog w = .ok (108, .agg #[.int .i64 a, .iface (typT x) (.agg (cellT x))]) w := by
  have h := method_end (.one a x) w
  rw [cell_one] at h
  exact h
theorem method_end_two (a : Nat) (x y : Tr.T) (w : World) : (method 284 126 (.agg #[.int .i64 a, .iface (typT x) (.agg (cellT x)), .iface (typT y) (.agg (cellT y))]) "warder/tree.end").run Try.prog w = .ok (110, .agg #[.int .i64 a, .iface (typT x) (.agg (cellT x)), .iface (typT y) (.agg (cellT y))]) w := by
  have h := method_end (.two a x y) w
  rw [cell_two] at h
  exact h
def FindR (s : Option Tr.T) (e : Ending) : Prop :=
  match s with
  | some t => e = .returned (.tuple #[valT t, .bool true])
  | none => e = .returned (.tuple #[.nilIface, .bool false])
set_option maxRecDepth 100000 in
set_option maxHeartbeats 2000000 in
theorem find_leaf (a : Nat) (p : Int) (w : World) : Calls Try.prog 80 #[.iface 150 (.agg #[.int .i64 a]), .int .i64 p] w fun e w' => FindR ((Tr.T.leaf a).find p) e ∧ Chg (fun _ => False) w w' := by
  have q1 := as_leaf1
  have q2 := as_leaf2
  have hm := method_end_leaf a
  by_cases hp : (a : Int) = p
  · have hf : Hid ((Tr.T.leaf a).find p = some (.leaf a)) := by show _ = _; simp only [Tr.T.find]; rw [if_pos hp]
    rw [hf.out]
    have hq : ((a : Int) == p) = true := by rw [beq_iff_eq]; exact hp
    clear hp hf
    go_enter Try.func80, Try.ntmps80
    go_wp2_with (go_at_call 112; refine (end_leaf a _).mono ?_; rintro e w' ⟨rfl, h⟩; have HC := Lib.hid h; clear h)
    go_ret2
    exact ⟨rfl, HC.out⟩
  · have hf : Hid ((Tr.T.leaf a).find p = none) := by show _ = _; simp only [Tr.T.find]; rw [if_neg hp]
    rw [hf.out]
    have hq : ((a : Int) == p) = false := by rw [beq_eq_false_iff_ne]; exact hp
    clear hp hf
    go_enter Try.func80, Try.ntmps80
    go_wp2_with (go_at_call 112; refine (end_leaf a _).mono ?_; rintro e w' ⟨rfl, h⟩; have HC := Lib.hid h; clear h)
    go_ret2
    exact ⟨rfl, (HC.out.alloc _).alloc _⟩
/-- What a call of find answers, from a world on. -/
def FindC (t : Tr.T) (p : Int) : Prop := ∀ w, Calls Try.prog 80 #[.iface (typT t) (.agg (cellT t)), .int .i64 p] w fun e w' => FindR (t.find p) e ∧ Chg (fun _ => False) w w'
theorem FindC.known {t : Tr.T} {p : Int} (h : FindC t p) : ∃ v b, (∀ w, Calls Try.prog 80 #[.iface (typT t) (.agg (cellT t)), .int .i64 p] w fun e w' => e = .returned (.tuple #[v, .bool b]) ∧ Chg (fun _ => False) w w') ∧ FindR (t.find p) (.returned (.tuple #[v, .bool b])) := by
  rcases hf : t.find p with _ | s
  · refine ⟨.nilIface, false, fun w => (h w).mono ?_, rfl⟩
    rw [hf]; exact fun e w' h => h
  · refine ⟨valT s, true, fun w => (h w).mono ?_, rfl⟩
    rw [hf]; exact fun e w' h => h
set_option maxRecDepth 100000 in
set_option maxHeartbeats 2000000 in
theorem find_one (a : Nat) (x : Tr.T) (p : Int) (hx : FindC x p) (w : World) : Calls Try.prog 80 #[.iface 124 (.agg #[.int .i64 a, .iface (typT x) (.agg (cellT x))]), .int .i64 p] w fun e w' => FindR ((Tr.T.one a x).find p) e ∧ Chg (fun _ => False) w w' := by
  have q3 := as_one1
  have hm := method_end_one a x
  obtain ⟨v, b, hx1, hx2⟩ := hx.known
  replace hx1 := Lib.hid hx1
  by_cases hp : (a : Int) = p
  · have hf : Hid ((Tr.T.one a x).find p = some (.one a x)) := by show _ = _; simp only [Tr.T.find]; rw [if_pos hp]
    rw [hf.out]
    have hq : ((a : Int) == p) = true := by rw [beq_iff_eq]; exact hp
    clear hp hf hx2
    go_enter Try.func80, Try.ntmps80
    go_wp2_with (go_at_call 108; refine (end_one a _ _).mono ?_; rintro e w' ⟨rfl, h⟩; have HC := Lib.hid h; clear h)
    go_ret2
    exact ⟨by rw [show FindR (some (Tr.T.one a x)) = fun e => e = .returned (.tuple #[valT (.one a x), .bool true]) from rfl, valT_one]; rfl, HC.out⟩
  · have hf : Hid ((Tr.T.one a x).find p = x.find p) := by show _ = _; simp only [Tr.T.find]; rw [if_neg hp]
    rw [hf.out]
    replace hx2 := Lib.hid hx2
    have hq : ((a : Int) == p) = false := by rw [beq_eq_false_iff_ne]; exact hp
    clear hp hf
    go_enter Try.func80, Try.ntmps80
    go_wp2_with (first | (go_at_call 108; refine (end_one a _ _).mono ?_; rintro e w' ⟨rfl, h⟩; have HC := Lib.hid h; clear h) | (go_at_call 80; refine (hx1.out _).mono ?_; rintro e w' ⟨rfl, h⟩; have HD := Lib.hid h; clear h))
    go_ret2
    exact ⟨hx2.out, Chg.trans (HC.out.alloc _) HD.out (fun _ _ h => h)⟩
set_option maxRecDepth 100000 in
set_option maxHeartbeats 2000000 in
theorem find_two (a : Nat) (x y : Tr.T) (p : Int) (hx : FindC x p) (hy : FindC y p) (w : World) : Calls Try.prog 80 #[.iface 126 (.agg #[.int .i64 a, .iface (typT x) (.agg (cellT x)), .iface (typT y) (.agg (cellT y))]), .int .i64 p] w fun e w' => FindR ((Tr.T.two a x y).find p) e ∧ Chg (fun _ => False) w w' := by
  have q4 := as_two1
  have q5 := as_two2
  have hm := method_end_two a x y
  obtain ⟨v, b, hx1, hx2⟩ := hx.known
  replace hx1 := Lib.hid hx1
  obtain ⟨v2, b2, hy1, hy2⟩ := hy.known
  replace hy1 := Lib.hid hy1
  by_cases hp : (a : Int) = p
  · have hf : Hid ((Tr.T.two a x y).find p = some (.two a x y)) := by show _ = _; simp only [Tr.T.find]; rw [if_pos hp]
    rw [hf.out]
    have hq : ((a : Int) == p) = true := by rw [beq_iff_eq]; exact hp
    clear hp hf hx2 hy2
    go_enter Try.func80, Try.ntmps80
    go_wp2_with (go_at_call 110; refine (end_two a _ _ _).mono ?_; rintro e w' ⟨rfl, h⟩; have HC := Lib.hid h; clear h)
    go_ret2
    exact ⟨by rw [show FindR (some (Tr.T.two a x y)) = fun e => e = .returned (.tuple #[valT (.two a x y), .bool true]) from rfl, valT_two]; rfl, HC.out⟩
  have hq : ((a : Int) == p) = false := by rw [beq_eq_false_iff_ne]; exact hp
  by_cases hg : (a : Int) < p
  · have hf : Hid ((Tr.T.two a x y).find p = none) := by show _ = _; simp only [Tr.T.find]; rw [if_neg hp, if_pos hg]
    rw [hf.out]
    have hg2 : decide ((a : Int) < p) = true := by rw [decide_eq_true_iff]; exact hg
    clear hp hf hx2 hy2 hg
    go_enter Try.func80, Try.ntmps80
    go_wp2_with (go_at_call 110; refine (end_two a _ _ _).mono ?_; rintro e w' ⟨rfl, h⟩; have HC := Lib.hid h; clear h)
    go_ret2
    exact ⟨rfl, (HC.out.alloc _).alloc _⟩
  have hg2 : decide ((a : Int) < p) = false := by rw [decide_eq_false_iff_not]; exact hg
  have hmx := method_end x
  have hfx := call_end x
  have hex := Lib.hid (end_any x)
  by_cases hl : p ≤ (x.endOf : Int)
  · have hf : Hid ((Tr.T.two a x y).find p = x.find p) := by show _ = _; simp only [Tr.T.find]; rw [if_neg hp, if_neg hg, if_pos hl]
    rw [hf.out]
    have hl2 : decide (p ≤ (x.endOf : Int)) = true := by rw [decide_eq_true_iff]; exact hl
    replace hx2 := Lib.hid hx2
    clear hp hf hg hl
    go_enter Try.func80, Try.ntmps80
    go_wp2_with (first | (go_at_call 110; refine (end_two a _ _ _).mono ?_; rintro e w' ⟨rfl, h⟩; have HC := Lib.hid h; clear h) | (go_at_call 80; refine (hx1.out _).mono ?_; rintro e w' ⟨rfl, h⟩; have HD := Lib.hid h; clear h) | (refine (hex.out _).mono ?_; rintro e w' ⟨rfl, h⟩; have HE := Lib.hid h; clear h; have e1 := two_cells HE.out (fun _ h => h) 1 rfl; have e2 := two_cells HE.out (fun _ h => h) 2 rfl))
    go_ret2
    exact ⟨hx2.out, Chg.trans (Chg.trans ((HC.out.alloc _).alloc _) HE.out (fun _ _ h => h)) HD.out (fun _ _ h => h)⟩
  · have hf : Hid ((Tr.T.two a x y).find p = y.find p) := by show _ = _; simp only [Tr.T.find]; rw [if_neg hp, if_neg hg, if_neg hl]
    rw [hf.out]
    have hl2 : decide (p ≤ (x.endOf : Int)) = false := by rw [decide_eq_false_iff_not]; exact hl
    replace hy2 := Lib.hid hy2
    clear hp hf hg hl
    go_enter Try.func80, Try.ntmps80
    go_wp2_with (first | (go_at_call 110; refine (end_two a _ _ _).mono ?_; rintro e w' ⟨rfl, h⟩; have HC := Lib.hid h; clear h) | (go_at_call 80; refine (hy1.out _).mono ?_; rintro e w' ⟨rfl, h⟩; have HD := Lib.hid h; clear h) | (refine (hex.out _).mono ?_; rintro e w' ⟨rfl, h⟩; have HE := Lib.hid h; clear h; have e1 := two_cells HE.out (fun _ h => h) 1 rfl; have e2 := two_cells HE.out (fun _ h => h) 2 rfl))
    go_ret2
    exact ⟨hy2.out, Chg.trans (Chg.trans ((HC.out.alloc _).alloc _) HE.out (fun _ _ h => h)) HD.out (fun _ _ h => h)⟩
theorem find_any (p : Int) : ∀ t : Tr.T, FindC t p
  | .leaf a => fun w => find_leaf a p w
  | .one a x => fun w => by
    have h := find_one a x p (find_any p x) w
    rw [← cell_one] at h
    exact h
  | .two a x y => fun w => by
    have h := find_two a x y p (find_any p x) (find_any p y) w
    rw [← cell_two] at h
    exact h
end Go.Proofs.Ytpppgnphblbbcaa
