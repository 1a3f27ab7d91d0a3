/- The walks of a tree's methods. -/
import Derived.Test.YtpppgnphblbbcaaTrPush
namespace Go.Proofs.Ytpppgnphblbbcaa
open Go.RowKit

def endF : Tr.T → Nat
  | .leaf _ => 112
  | .one _ _ => 108
  | .two _ _ _ => 110
def deepF : Tr.T → Nat
  | .leaf _ => 111
  | .one _ _ => 107
  | .two _ _ _ => 109
set_option maxRecDepth 100000 in
theorem end_leaf (a : Nat) (w : World) : Calls Try.prog 112 #[.agg #[.int .i64 a]] w fun e w' => e = .returned (.int .i64 a) ∧ Chg (fun _ => False) w w' := by
  go_enter Try.func112, Try.ntmps112
  go_wp2
  go_ret
  exact ⟨rfl, (Chg.refl _ w).alloc _⟩
set_option maxRecDepth 100000 in
theorem end_one (a : Nat) (u : Value) (w : World) : Calls Try.prog 108 #[.agg #[.int .i64 a, u]] w fun e w' => e = .returned (.int .i64 a) ∧ Chg (fun _ => False) w w' := by
  go_enter Try.func108, Try.ntmps108
  go_wp2
  go_ret
  exact ⟨rfl, (Chg.refl _ w).alloc _⟩
set_option maxRecDepth 100000 in
theorem end_two (a : Nat) (u v : Value) (w : World) : Calls Try.prog 110 #[.agg #[.int .i64 a, u, v]] w fun e w' => e = .returned (.int .i64 a) ∧ Chg (fun _ => False) w w' := by
  go_enter Try.func110, Try.ntmps110
  go_wp2
  go_ret
  exact ⟨rfl, (Chg.refl _ w).alloc _⟩
theorem end_any (t : Tr.T) (w : World) : Calls Try.prog (endF t) #[.agg (cellT t)] w fun e w' => e = .returned (.int .i64 t.endOf) ∧ Chg (fun _ => False) w w' := by
  cases t with
  | leaf a => exact end_leaf a w
  | one a x => exact end_one a _ w
  | two a x y => exact end_two a _ _ w
set_option maxRecDepth 100000 in
theorem deep_leaf (a : Nat) (w : World) : Calls Try.prog 111 #[.agg #[.int .i64 a]] w fun e w' => e = .returned (.int .i64 1) ∧ Chg (fun _ => False) w w' := by
  go_enter Try.func111, Try.ntmps111
  go_wp2
  go_ret
  exact ⟨rfl, (Chg.refl _ w).alloc _⟩
theorem method_deep (t : Tr.T) (w : World) : (method 284 (typT t) (.agg (cellT t)) "warder/tree.deep").run Try.prog w = .ok (deepF t, .agg (cellT t)) w := by cases t <;> kernel_rfl
theorem method_end (t : Tr.T) (w : World) : (method 284 (typT t) (.agg (cellT t)) "warder/tree.end").run Try.prog w = .ok (endF t, .agg (cellT t)) w := by cases t <;> kernel_rfl
theorem call_deep (t : Tr.T) (args : Array Value) (w : World) : (callFunc (deepF t) args).run Try.prog w = .ok (.enter (deepF t) args) w := by cases t <;> kernel_rfl
theorem call_end (t : Tr.T) (args : Array Value) (w : World) : (callFunc (endF t) args).run Try.prog w = .ok (.enter (endF t) args) w := by cases t <;> kernel_rfl
set_option maxRecDepth 100000 in
theorem deep_one (a : Nat) (x : Tr.T) (hx : ∀ w, Calls Try.prog (deepF x) #[.agg (cellT x)] w fun e w' => e = .returned (.int .i64 x.deep) ∧ Chg (fun _ => False) w w') (hd : x.deep ≤ 1000) (w : World) : Calls Try.prog 107 #[.agg #[.int .i64 a, valT x]] w fun e w' => e = .returned (.int .i64 (Tr.T.deep (.one a x))) ∧ Chg (fun _ => False) w w' := by
  rw [valT_eq]
  have hm := method_deep x
  have hf := call_deep x
  replace hx := Lib.hid hx
  go_enter Try.func107, Try.ntmps107
  go_wp2_with (refine (hx.out _).mono ?_; rintro e w' ⟨rfl, h⟩; have HC := Lib.hid h; clear h)
  go_ret
  exact ⟨ret_int (by simp [Tr.T.deep]), Chg.trans ((Chg.refl _ w).alloc _) HC.out (fun _ _ h => h)⟩
set_option maxRecDepth 100000 in
set_option maxHeartbeats 4000000 in
theorem deep_two (a : Nat) (x y : Tr.T) (hx : ∀ w, Calls Try.prog (deepF x) #[.agg (cellT x)] w fun e w' => e = .returned (.int .i64 x.deep) ∧ Chg (fun _ => False) w w') (hy : ∀ w, Calls Try.prog (deepF y) #[.agg (cellT y)] w fun e w' => e = .returned (.int .i64 y.deep) ∧ Chg (fun _ => False) w w') (hd : x.deep ≤ 1000) (hd2 : y.deep ≤ 1000) (w : World) : Calls Try.prog 109 #[.agg #[.int .i64 a, valT x, valT y]] w fun e w' => e = .returned (.int .i64 (Tr.T.deep (.two a x y))) ∧ Chg (fun _ => False) w w' := by
  rw [valT_eq, valT_eq]
  have hm := method_deep x
  have hf := call_deep x
  have hm2 := method_deep y
  have hf2 := call_deep y
  have c0 : (w.alloc (.cells #[.int .i64 a, .iface (typT x) (.agg (cellT x)), .iface (typT y) (.agg (cellT y))] 126)).cell? ⟨w.heap.size, 1, none⟩ = some (.iface (typT x) (.agg (cellT x))) := by rw [(Blk.new w 126 _).cell]; rfl
  have c1 : (w.alloc (.cells #[.int .i64 a, .iface (typT x) (.agg (cellT x)), .iface (typT y) (.agg (cellT y))] 126)).cell? ⟨w.heap.size, 2, none⟩ = some (.iface (typT y) (.agg (cellT y))) := by rw [(Blk.new w 126 _).cell]; rfl
  have k1 : ∀ w1 w2 : World, Chg (fun _ => False) w1 w2 → w.heap.size < w1.heap.size → ∀ u i, w1.cell? ⟨w.heap.size, i, none⟩ = some u → w2.cell? ⟨w.heap.size, i, none⟩ = some u := fun w1 w2 h hl u i hu => by rw [h.cell (by exact hl) (fun h => h)]; exact hu
  replace hx := Lib.hid hx
  replace hy := Lib.hid hy
  replace k1 := Lib.hid k1
  go_enter Try.func109, Try.ntmps109
  go_wp2
  go_region_with (first | (refine (hx.out _).mono ?_; rintro e w' ⟨rfl, h⟩; have HC := Lib.hid h; clear h; try (have d0 := k1.out _ _ HC.out (by show w.heap.size < (w.alloc _).heap.size; simp) _ _ (by exact c0); have d1 := k1.out _ _ HC.out (by show w.heap.size < (w.alloc _).heap.size; simp) _ _ (by exact c1))) | (refine (hy.out _).mono ?_; rintro e w' ⟨rfl, h⟩; have HD := Lib.hid h; clear h; try (have d0 := k1.out _ _ HD.out (by show w.heap.size < (w.alloc _).heap.size; simp) _ _ (by exact c0); have d1 := k1.out _ _ HD.out (by show w.heap.size < (w.alloc _).heap.size; simp) _ _ (by exact c1))))
  all_goals (go_wp2_with fail)
  all_goals (go_ret; refine ⟨ret_int ?_, ?_⟩)
  all_goals first | exact Chg.trans (Chg.trans (((Chg.refl _ w).alloc _).drew) HC.out (fun _ _ h => h)) HD.out (fun _ _ h => h) | exact Chg.trans (Chg.trans (((Chg.refl _ w).alloc _).drew) HD.out (fun _ _ h => h)) HC.out (fun _ _ h => h) | (rw [IntWalk.i64_in _ (by omega)]; simp only [Tr.T.deep]; omega)
theorem deep_pos (t : Tr.T) : 1 ≤ t.deep := by cases t <;> simp [Tr.T.deep]
theorem deep_any : ∀ (t : Tr.T), t.deep ≤ 1000 → ∀ w, Calls Try.prog (deepF t) #[.agg (cellT t)] w fun e w' => e = .returned (.int .i64 t.deep) ∧ Chg (fun _ => False) w w'
  | .leaf a, _, w => deep_leaf a w
  | .one a x, h, w => deep_one a x (deep_any x (by simp only [Tr.T.deep] at h; omega)) (by simp only [Tr.T.deep] at h; omega) w
  | .two a x y, h, w => deep_two a x y (deep_any x (by simp only [Tr.T.deep] at h; omega)) (deep_any y (by simp only [Tr.T.deep] at h; omega)) (by simp only [Tr.T.deep] at h; omega) (by simp only [Tr.T.deep] at h; omega) w
end Go.Proofs.Ytpppgnphblbbcaa
