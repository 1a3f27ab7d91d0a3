/- The walk of push: an item on a row of trees. -/
import Derived.Test.YtpppgnphblbbcaaTrArity
import Derived.Test.YtpppgnphblbbcaaTrLaw
import Derived.BigRegion
namespace Go.Proofs.Ytpppgnphblbbcaa
open Go.RowKit

def valT : Tr.T → Value
  | .leaf a => .iface 150 (.agg #[.int .i64 a])
  | .one a x => .iface 124 (.agg #[.int .i64 a, valT x])
  | .two a x y => .iface 126 (.agg #[.int .i64 a, valT x, valT y])
def cellT : Tr.T → Array Value
  | .leaf a => #[.int .i64 a]
  | .one a x => #[.int .i64 a, valT x]
  | .two a x y => #[.int .i64 a, valT x, valT y]
def typT : Tr.T → TypeId
  | .leaf _ => 150
  | .one _ _ => 124
  | .two _ _ _ => 126
theorem valT_eq (t : Tr.T) : valT t = .iface (typT t) (.agg (cellT t)) := by cases t <;> rfl
theorem valT_one (a : Nat) (x : Tr.T) : valT (.one a x) = .iface 124 (.agg #[.int .i64 a, .iface (typT x) (.agg (cellT x))]) := by rw [← valT_eq]; rfl
theorem valT_two (a : Nat) (x y : Tr.T) : valT (.two a x y) = .iface 126 (.agg #[.int .i64 a, .iface (typT x) (.agg (cellT x)), .iface (typT y) (.agg (cellT y))]) := by rw [← valT_eq, ← valT_eq]; rfl
theorem node_info : (Try.prog.info? 116).map (fun i => (i.zero, i.size, i.bytes)) = some (some Value.nilIface, 1, 16) := by kernel_rfl
def rowV (row : List Tr.T) : List Value := row.reverse.map valT
theorem rowV_cons (t : Tr.T) (r : List Tr.T) : rowV (t :: r) = rowV r ++ [valT t] := by simp [rowV]
theorem rowV_len (r : List Tr.T) : (rowV r).length = r.length := by simp [rowV]
theorem own_take {w : World} {base n k c : Nat} {e : TypeId} {A : Option Addr} {xs : List Value} (h : w.ownsRow base e 1 (.slice A n c) n xs) (hk : k ≤ n) : w.ownsRow base e 1 (.slice A k c) k (xs.take k) := by
  obtain ⟨h1, h2⟩ := h
  refine ⟨by rw [List.length_take]; omega, ?_⟩
  rcases h2 with ⟨h3, h4⟩ | ⟨g, cap, cur, hv, hg, hh, hc, hm, hs, ht⟩
  · injection h3 with hA hn hcc
    subst hA; subst hcc
    obtain rfl : k = 0 := by omega
    exact .inl ⟨rfl, rfl⟩
  · injection hv with hA hn hcc
    subst hA; subst hcc
    refine .inr ⟨g, c, cur, rfl, hg, hh, by omega, hm, hs, ?_⟩
    rw [← ht, List.take_take]; congr 1; omega
def Pushed (base : Nat) (v : Value) (row : Option (List Tr.T)) (w : World) (e : Ending) (w' : World) : Prop :=
  match row with
  | none => e = .returned (.tuple #[v, .bool false]) ∧ Chg (fun _ => False) w w'
  | some r => ∃ v', e = .returned (.tuple #[v', .bool true]) ∧ w'.ownsRow base 116 1 v' r.length (rowV r) ∧ Chg (fun k => v.ownBlock = some k) w w'

theorem node_new (t : Tr.T) : ∀ u ∈ [valT t], u.oneCell' = true := by
  intro u hu
  simp only [List.mem_singleton] at hu
  subst hu
  cases t <;> rfl
set_option maxRecDepth 100000 in
set_option maxHeartbeats 2000000 in
theorem push_any (w : World) (base : Nat) (v : Value) (row : List Tr.T) (op : Int) (a : Nat) (hown : w.ownsRow base 116 1 v row.length (rowV row)) (hb : base ≤ w.heap.size) (hl : row.length ≤ 1000) :
    Calls Try.prog 79 #[v, .int .i64 op, .int .i64 a] w fun e w' => Pushed base v (Tr.push row op a) w e w' := by
  obtain ⟨A, c, rfl, hc1, hc2⟩ := own_slice hown
  have H := Lib.hid hown
  clear hown
  obtain ⟨i, hi, hzz⟩ := Option.map_eq_some_iff.1 node_info
  simp only [Prod.mk.injEq] at hzz
  obtain ⟨hz0, hz1, hz2⟩ := hzz
  obtain ⟨n, hn⟩ : ∃ n, n = row.length := ⟨_, rfl⟩
  rw [← hn] at H hl hc1
  rw [← hn]
  replace hn := Lib.hid hn
  rcases Tr.arity_range op with h0 | h0 | h0 | h0
  · replace h0 := Lib.hid h0
    have hp : Tr.push row op a = none := by unfold Tr.push; rw [if_neg (by rw [h0.out]; decide), if_neg (by rw [h0.out]; decide), if_neg (by rw [h0.out]; decide)]
    rw [hp]
    clear hp
    go_enter Try.func79, Try.ntmps79
    go_wp2_with (go_at_call 39; refine (arity_any _ _).mono ?_; rintro e w' ⟨rfl, rfl⟩; rw [h0.out])
    go_ret2
    exact ⟨rfl, Chg.refl _ _⟩
  · replace h0 := Lib.hid h0
    have hp : Tr.push row op a = some (.leaf a :: row) := by unfold Tr.push; rw [if_pos h0.out]
    rw [hp]
    clear hp
    go_enter Try.func79, Try.ntmps79
    go_wp2_with (first | (go_at_call 39; refine (arity_any _ _).mono ?_; rintro e w' ⟨rfl, rfl⟩; rw [h0.out]) | (at_builtin; refine wpList_append_lies _ rfl (.tmp 17) (.tmp 21) 142 rfl base 116 i _ 1 16 Try.underlying142 hi hz0 hz1 hz2 rfl (by omega) (.slice A n c) n (rowV row) rfl (by exact World.ownsRow.alloc (w := w) H.out _) ⟨w.heap.size, 0, none⟩ 1 1 [valT (.leaf a)] rfl rfl (by exact all_new (Blk.new w 116 #[valT (.leaf a)])) (node_new _) (by omega) (by unfold maxLen; omega) (by omega) (by simp; omega) (w.heap.size + 1) (by simp) ?_; intro g cap w3 hown3 hg3 hat3 hlt3; have HO := Lib.hid hown3; have HC : Hid (Chg (fun k => Value.ownBlock (.slice A n c) = some k) w w3) := Chg.grown ((Chg.refl _ w).alloc _) hg3 (fun k hk => .inl hk); clear hown3 hg3 hat3 hlt3))
    go_ret2
    refine ⟨_, rfl, ?_, HC.out⟩
    rw [rowV_cons, List.length_cons, ← hn.out]
    exact HO.out
  · replace h0 := Lib.hid h0
    match row, hn with
    | [], hn =>
      have hp : Tr.push [] op a = none := by unfold Tr.push; rw [if_neg (by rw [h0.out]; decide), if_pos h0.out]
      rw [hp]
      clear hp
      obtain rfl := hn.out
      go_enter Try.func79, Try.ntmps79
      go_wp2_with (go_at_call 39; refine (arity_any _ _).mono ?_; rintro e w' ⟨rfl, rfl⟩; rw [h0.out])
      go_ret2
      exact ⟨rfl, Chg.refl _ _⟩
    | x :: r, hn =>
      have hp : Tr.push (x :: r) op a = some (.one a x :: r) := by unfold Tr.push; rw [if_neg (by rw [h0.out]; decide), if_pos h0.out]
      rw [hp]
      clear hp
      obtain rfl := hn.out
      clear hn
      obtain ⟨g0, c0, hv, hglt, _, _, hcell⟩ := own_form H.out (by simp)
      injection hv with hA _ hcc
      subst hA
      subst hcc
      have hx : w.cell? ⟨g0, r.length, none⟩ = some (.iface (typT x) (.agg (cellT x))) := by
        rw [← valT_eq]
        rw [hcell r.length (by simp), rowV_cons, List.getElem?_append_right (by rw [rowV_len]; exact Nat.le_refl _), rowV_len, Nat.sub_self]; rfl
      have HT := Lib.hid (own_take (k := r.length) H.out (by simp))
      clear hcell
      rw [rowV_cons] at HT
      have ht : (rowV r ++ [valT x]).take r.length = rowV r := by rw [List.take_append_of_le_length (by rw [rowV_len]; exact Nat.le_refl _), List.take_of_length_le (by rw [rowV_len]; exact Nat.le_refl _)]
      rw [ht] at HT
      clear ht
      rw [List.length_cons] at hc1 hl ⊢
      clear H
      have hd : decide ((1 : Int) ≤ (r.length : Int) + 1) = true := by rw [decide_eq_true_iff]; omega
      have hw : IntKind.i64.wrap (r.length : Int) = (r.length : Int) := IntWalk.i64_in _ (by omega)
      have hk1 : (0 : Int) ≤ (r.length : Int) := by omega
      have hk2 : (r.length : Int) ≤ (c : Int) := by omega
      have hk3 : (r.length : Int) < (r.length : Int) + 1 := by omega
      go_enter Try.func79, Try.ntmps79
      go_wp2_with (go_at_call 39; refine (arity_any _ _).mono ?_; rintro e w' ⟨rfl, rfl⟩; rw [h0.out])
      go_region_law (refine step_append_lies _ rfl (.tmp 33) (.tmp 42) 142 rfl base 116 i _ 1 16 Try.underlying142 hi hz0 hz1 hz2 rfl (by omega) (.slice (some ⟨g0, 0, none⟩) r.length c) r.length (rowV r) rfl (by exact World.ownsRow.alloc (w := w.drew) HT.out _) ⟨w.heap.size, 0, none⟩ 1 1 [valT (.one a x)] rfl rfl (by rw [valT_one]; exact all_new (Blk.new w.drew 116 _)) (node_new _) (by omega) (by unfold maxLen; omega) (by omega) (by simp; omega) (w.heap.size + 1) (by simp) ?_; intro g cap w3 hown3 hg3 hat3 hlt3; have HO := Lib.hid hown3; have HC : Hid (Chg (fun k => k = g0) w w3) := Chg.grown (((Chg.refl _ w).alloc _).drew) hg3 (fun k hk => .inl (by simp [Value.ownBlock] at hk; exact hk.symm)); clear hown3 hg3 hat3 hlt3)
      all_goals (go_wp2; go_ret2; refine ⟨_, rfl, ?_, ?_⟩)
      all_goals first | (rw [rowV_cons, List.length_cons]; exact HO.out) | exact HC.out.mono (fun k _ hk => by simp [Value.ownBlock, hk])
  · replace h0 := Lib.hid h0
    match row, hn with
    | [], hn =>
      have hp : Tr.push [] op a = none := by unfold Tr.push; rw [if_neg (by rw [h0.out]; decide), if_neg (by rw [h0.out]; decide), if_pos h0.out]
      rw [hp]
      clear hp
      obtain rfl := hn.out
      go_enter Try.func79, Try.ntmps79
      go_wp2_with (go_at_call 39; refine (arity_any _ _).mono ?_; rintro e w' ⟨rfl, rfl⟩; rw [h0.out])
      go_ret2
      exact ⟨rfl, Chg.refl _ _⟩
    | [x], hn =>
      have hp : Tr.push [x] op a = none := by unfold Tr.push; rw [if_neg (by rw [h0.out]; decide), if_neg (by rw [h0.out]; decide), if_pos h0.out]
      rw [hp]
      clear hp
      obtain rfl := hn.out
      go_enter Try.func79, Try.ntmps79
      go_wp2_with (go_at_call 39; refine (arity_any _ _).mono ?_; rintro e w' ⟨rfl, rfl⟩; rw [h0.out])
      go_ret2
      exact ⟨rfl, Chg.refl _ _⟩
    | y :: x :: r, hn =>
      have hp : Tr.push (y :: x :: r) op a = some (.two a x y :: r) := by unfold Tr.push; rw [if_neg (by rw [h0.out]; decide), if_neg (by rw [h0.out]; decide), if_pos h0.out]
      rw [hp]
      clear hp
      obtain rfl := hn.out
      clear hn
      obtain ⟨g0, c0, hv, hglt, _, _, hcell⟩ := own_form H.out (by simp)
      injection hv with hA _ hcc
      subst hA
      subst hcc
      have hx : w.cell? ⟨g0, r.length, none⟩ = some (.iface (typT x) (.agg (cellT x))) := by
        rw [← valT_eq]
        rw [hcell r.length (by simp; omega), rowV_cons, rowV_cons, List.append_assoc, List.getElem?_append_right (by rw [rowV_len]; exact Nat.le_refl _), rowV_len, Nat.sub_self]; rfl
      have hy : w.cell? ⟨g0, r.length + 1, none⟩ = some (.iface (typT y) (.agg (cellT y))) := by
        rw [← valT_eq]
        rw [hcell (r.length + 1) (by simp), rowV_cons, rowV_cons, List.append_assoc, List.getElem?_append_right (by rw [rowV_len]; omega), rowV_len, show r.length + 1 - r.length = 1 by omega]; rfl
      have HT := Lib.hid (own_take (k := r.length) H.out (by simp; omega))
      clear hcell
      rw [rowV_cons, rowV_cons, List.append_assoc] at HT
      have ht : (rowV r ++ ([valT x] ++ [valT y])).take r.length = rowV r := by rw [List.take_append_of_le_length (by rw [rowV_len]; exact Nat.le_refl _), List.take_of_length_le (by rw [rowV_len]; exact Nat.le_refl _)]
      rw [ht] at HT
      clear ht
      rw [List.length_cons, List.length_cons] at hc1 hl ⊢
      clear H
      have hd : decide ((2 : Int) ≤ (r.length : Int) + 1 + 1) = true := by rw [decide_eq_true_iff]; omega
      have hw : IntKind.i64.wrap ((r.length : Int) + 1 + 1 - 2) = (r.length : Int) := (IntWalk.i64_in _ (by omega)).trans (by omega)
      have hw2 : IntKind.i64.wrap ((r.length : Int) + 1) = (r.length : Int) + 1 := IntWalk.i64_in _ (by omega)
      have hk1 : (0 : Int) ≤ (r.length : Int) := by omega
      have hk2 : (r.length : Int) ≤ (c : Int) := by omega
      have hk3 : (r.length : Int) < (r.length : Int) + 1 + 1 := by omega
      have hk4 : (r.length : Int) + 1 < (r.length : Int) + 1 + 1 := by omega
      have hk5 : (0 : Int) ≤ (r.length : Int) + 1 := by omega
      go_enter Try.func79, Try.ntmps79
      go_wp2_with (go_at_call 39; refine (arity_any _ _).mono ?_; rintro e w' ⟨rfl, rfl⟩; rw [h0.out])
      go_region_law (refine step_append_lies _ rfl (.tmp 54) (.tmp 68) 142 rfl base 116 i _ 1 16 Try.underlying142 hi hz0 hz1 hz2 rfl (by omega) (.slice (some ⟨g0, 0, none⟩) r.length c) r.length (rowV r) rfl (by exact World.ownsRow.alloc (w := w.drew) HT.out _) ⟨w.heap.size, 0, none⟩ 1 1 [valT (.two a x y)] rfl rfl (by rw [valT_two]; exact all_new (Blk.new w.drew 116 _)) (node_new _) (by omega) (by unfold maxLen; omega) (by omega) (by simp; omega) (w.heap.size + 1) (by simp) ?_; intro g cap w3 hown3 hg3 hat3 hlt3; have HO := Lib.hid hown3; have HC : Hid (Chg (fun k => k = g0) w w3) := Chg.grown (((Chg.refl _ w).alloc _).drew) hg3 (fun k hk => .inl (by simp [Value.ownBlock] at hk; exact hk.symm)); clear hown3 hg3 hat3 hlt3)
      all_goals (go_wp2; go_ret2; refine ⟨_, rfl, ?_, ?_⟩)
      all_goals first | (rw [rowV_cons, List.length_cons]; exact HO.out) | exact HC.out.mono (fun k _ hk => by simp [Value.ownBlock, hk])
end Go.Proofs.Ytpppgnphblbbcaa
