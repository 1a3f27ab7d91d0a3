/- The iterator over all events with all users: its contract. -/
import Derived.Test.YtfnpfkjdcchipaaModel
import Derived.RangeFuncNested
import Derived.RangeFuncBound
import Derived.RangeFuncCalls
import Derived.RangeFuncLeaves
import Derived.RangeFuncFrom
import Derived.Shelf.Abstract
import Derived.Shelf.RegionOpen
import Derived.WalkKit
import Derived.OwnWalkIn
import Derived.TacticsInMore
import Derived.LoopNIn
import Derived.LoopIn
namespace Go.Proofs.Ytfnpfkjdcchipaa
open Go.RowKit Go.Shelf
attribute [local go_sem] Oper.semAt_some

/-- All pairs of the first j rows, and of row j the first i. -/
def rowP (j i : Nat) : List (Nat × Nat) := (List.range i).map fun u => (j, u)
def rowsP (nU j : Nat) : List (Nat × Nat) := (List.range j).flatMap fun e => rowP e nU
theorem rowP_succ (j i : Nat) : rowP j (i + 1) = rowP j i ++ [(j, i)] := by unfold rowP; rw [List.range_succ, List.map_append]; rfl
theorem rowsP_succ (nU j : Nat) : rowsP nU (j + 1) = rowsP nU j ++ rowP j nU := by unfold rowsP; rw [List.range_succ, List.flatMap_append]; simp
theorem rowP_len (j i : Nat) : (rowP j i).length = i := by simp [rowP]
theorem rowsP_len (nU : Nat) : ∀ j, (rowsP nU j).length = j * nU
  | 0 => by simp [rowsP]
  | j + 1 => by rw [rowsP_succ, List.length_append, rowP_len, rowsP_len nU j, Nat.add_mul, Nat.one_mul]
abbrev encP (p : Nat × Nat) : Array Value := #[.int .i64 p.1, .int .i64 p.2]
set_option maxRecDepth 100000 in
set_option maxHeartbeats 4000000 in
theorem pairs_in (F : Fence) (n : Nat) (h21 : F.fn 21) (hro : F.round = none) (m : MC) (w : World) :
    CallsIn F n Try.prog 21 #[.agg (mA m)] w fun e w' => e = .returned (.func (.func 30) #[] #[.pointer (some ⟨w.heap.size, 0, none⟩)]) ∧ w.alloc (.cells (mA m) 32) = w' := by
  unfold mA
  refine callsIn_of_wp Try.func21 rfl h21 ?_ hro
  simp only [Try.ntmps21, List.size_toArray, List.length_cons, List.length_nil, Nat.reduceAdd, Nat.reduceSub, Array.replicate_succ, Array.replicate_zero, List.push_toArray, List.append_toArray, List.nil_append, List.cons_append]
  gi_wp2
  go_ret
  exact ⟨rfl, rfl⟩
theorem rowsP_all {nU nE j i : Nat} (hj : j < nE) (hi : i ≤ nU) : rowsP nU j ++ rowP j i <+: rowsP nU nE := by
  have h1 : rowP j i <+: rowP j nU := by
    unfold rowP
    refine ⟨((List.range nU).drop i).map fun u => (j, u), ?_⟩
    rw [← List.map_append]
    congr 1
    have : List.range i = (List.range nU).take i := by rw [List.take_range, Nat.min_eq_left hi]
    rw [this, List.take_append_drop]
  have h2 : rowsP nU (j + 1) <+: rowsP nU nE := by
    unfold rowsP
    have : List.range (j + 1) = (List.range nE).take (j + 1) := by rw [List.take_range, Nat.min_eq_left (by omega)]
    rw [this]
    refine ⟨((List.range nE).drop (j + 1)).flatMap fun e => rowP e nU, ?_⟩
    rw [← List.flatMap_append, List.take_append_drop]
  refine List.IsPrefix.trans ?_ h2
  rw [rowsP_succ]
  obtain ⟨t, ht⟩ := h1
  exact ⟨t, by rw [List.append_assoc, ht]⟩
set_option maxRecDepth 100000 in
set_option maxHeartbeats 4000000 in
theorem pairs1_in (F : Fence) (n : Nat) (h30 : F.fn 30) (hro : F.round = none) (hn : 1 ≤ n) (l g n₀ : Nat) (m : MC) (hE : m.ev.length ≤ maxLen) (hU : m.nU ≤ maxLen) (J Jx : List (Nat × Nat) → World → Prop) (hg : g < n₀)
    (hY : ∀ pre x W, J pre W → pre.length < m.ev.length * m.nU → YieldAt F (n - 1) Try.prog l (encP x) W fun e W' =>
      (e = .returned (.bool true) ∧ J (pre ++ [x]) W' ∧ Below n₀ W W') ∨ (e = .returned (.bool false) ∧ Jx (pre ++ [x]) W'))
    (W : World) (hB : Blk W g 32 (mA m)) (h0 : J [] W) :
    CallsIn F n Try.prog 30 #[.func (.yield l) #[] #[], .pointer (some ⟨g, 0, none⟩)] W fun e W' => (∃ v, e = .returned v) ∧
      ((∃ ys, ys = rowsP m.nU m.ev.length ∧ J ys W') ∨ (∃ pre, pre <+: rowsP m.nU m.ev.length ∧ Jx pre W')) := by
  unfold maxLen at hE hU
  obtain ⟨-, -, e2, -, -, e5, -, -, -, -⟩ := mcells hB
  refine callsIn_of_wp Try.func30 rfl h30 ?_ hro
  simp only [Try.ntmps30, List.size_toArray, List.length_cons, List.length_nil, Nat.reduceAdd, Nat.reduceSub, Array.replicate_succ, Array.replicate_zero, List.push_toArray, List.append_toArray, List.nil_append, List.cons_append]
  gi_wp2
  gi_loopw [8] (fun x wr => ∃ j : Nat, j ≤ m.ev.length ∧ x = .int .i64 j ∧ J (rowsP m.nU j) wr ∧ Below n₀ W wr) (fun x _ => m.ev.length - (intOf x).toNat)
  case atStart => exact ⟨0, Nat.zero_le _, rfl, h0, Below.refl _ _⟩
  case round =>
    obtain ⟨j, hj, rfl, hJ, hb⟩ := hrel
    by_cases hlt : j < m.ev.length
    · have e2r : wr.cell? ⟨g, 2, none⟩ = some (.slice m.aU m.nU m.cU) := (hb.cell (p := ⟨g, 2, none⟩) hg).trans e2
      replace hJ := Lib.hid hJ
      gi_wp2
      gi_loopw [14] (fun x wt => ∃ i : Nat, i ≤ m.nU ∧ x = .int .i64 i ∧ J (rowsP m.nU j ++ rowP j i) wt ∧ Below n₀ W wt) (fun x _ => m.nU - (intOf x).toNat)
      case atStart => exact ⟨0, Nat.zero_le _, rfl, by simpa [rowP] using hJ.out, hb⟩
      case round =>
        obtain ⟨i, hi, rfl, hJ2, hb2⟩ := hrel
        by_cases hlt2 : i < m.nU
        · obtain ⟨fn, tmps, assign, body, hy, hR⟩ := hY _ (j, i) wr hJ2 (by
            rw [List.length_append, rowsP_len, rowP_len]
            calc j * m.nU + i < j * m.nU + m.nU := by omega
              _ = (j + 1) * m.nU := by rw [Nat.add_mul, Nat.one_mul]
              _ ≤ m.ev.length * m.nU := Nat.mul_le_mul_right _ hlt)
          dsimp only [encP] at hy
          replace hJ2 := Lib.hid hJ2
          gi_wp2
          refine hR.mono ?_
          rintro e W3 (⟨rfl, hJ3, hk3⟩ | ⟨rfl, hJx3⟩)
          · replace hJ3 := Lib.hid hJ3
            gi_wp2
            go_roundw
            case rel => exact ⟨i + 1, by omega, by go_num, by rw [rowP_succ, ← List.append_assoc]; exact hJ3.out, hb2.trans hk3⟩
            case measure => (simp [intOf] <;> omega)
          · replace hJx3 := Lib.hid hJx3
            gi_wp2
            refine bodyPost_ret (results_none rfl _ _ _) rfl ?_
            exact ⟨⟨_, rfl⟩, .inr ⟨rowsP m.nU j ++ rowP j i ++ [(j, i)], by rw [List.append_assoc, ← rowP_succ]; exact rowsP_all hlt hlt2, hJx3.out⟩⟩
        · obtain rfl : i = m.nU := by omega
          replace hJ2 := Lib.hid hJ2
          gi_wp2
          go_roundw
          case rel => exact ⟨j + 1, by omega, by go_num, by rw [rowsP_succ]; exact hJ2.out, hb2⟩
          case measure => (simp [intOf] <;> omega)
    · obtain rfl : j = m.ev.length := by omega
      replace hJ := Lib.hid hJ
      gi_wp2
      go_end0
      exact ⟨⟨_, rfl⟩, .inl ⟨_, rfl, hJ.out⟩⟩
theorem pairs_stops (F : Fence) (n : Nat) (h30 : F.fn 30) (hro : F.round = none) (hn : 1 ≤ n) (g n₀ : Nat) (m : MC) (hE : m.ev.length ≤ maxLen) (hU : m.nU ≤ maxLen) (w : World) (hg : g < n₀) (hB : Blk w g 32 (mA m)) :
    SeqStopsK F n Try.prog 30 #[.pointer (some ⟨g, 0, none⟩)] encP (Below n₀) (fun ys => ys = rowsP m.nU m.ev.length) (fun pre => pre <+: rowsP m.nU m.ev.length) (m.ev.length * m.nU) w := fun l J Jx W hW _ _ hY h0 =>
  pairs1_in F n h30 hro hn l g n₀ m hE hU J Jx hg hY W (hB.below hW hB.lt) h0
end Go.Proofs.Ytfnpfkjdcchipaa
