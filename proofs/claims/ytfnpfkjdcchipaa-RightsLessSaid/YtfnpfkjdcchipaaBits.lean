/- The walks of bits.Has, bits.number, bits.First, and of the reference's Has and in. -/
import Derived.Test.YtfnpfkjdcchipaaLib
import Derived.Test.YtfnpfkjdcchipaaRows
import Derived.Laws.BitsLemmas
namespace Go.Proofs.Ytfnpfkjdcchipaa
open Go.RowKit

/-- Is number i in set s? -/
def hasB (s i : Int) : Bool := decide (0 ≤ i ∧ i < 31) && decide ((s / 2 ^ i.toNat) % 2 = 1)
theorem number_any (w : World) (i : Int) : Calls Try.prog 31 #[.int .i64 i] w fun e w' => e = .returned (.bool (decide (0 ≤ i ∧ i < 31))) ∧ w = w' := by
  by_cases h1 : 0 ≤ i
  · by_cases h2 : i < 31
    · have d1 : decide (0 ≤ i) = true := by simpa using h1
      have d2 : decide (i < 31) = true := by simpa using h2
      have hd : Hid (decide (0 ≤ i ∧ i < 31) = true) := by show _ = _; rw [decide_eq_true_iff]; exact ⟨h1, h2⟩
      clear h1 h2
      go_enter Try.func31, Try.ntmps31
      go_wp2
      go_ret
      exact ⟨by rw [hd.out]; rfl, rfl⟩
    · have d1 : decide (0 ≤ i) = true := by simpa using h1
      have d2 : decide (i < 31) = false := by simpa using h2
      have hd : Hid (decide (0 ≤ i ∧ i < 31) = false) := by show _ = _; rw [decide_eq_false_iff_not]; exact fun h => h2 h.2
      clear h1 h2
      go_enter Try.func31, Try.ntmps31
      go_wp2
      go_ret
      exact ⟨by rw [hd.out]; rfl, rfl⟩
  · have d1 : decide (0 ≤ i) = false := by simpa using h1
    have hd : Hid (decide (0 ≤ i ∧ i < 31) = false) := by show _ = _; rw [decide_eq_false_iff_not]; exact fun h => h1 h.1
    clear h1
    go_enter Try.func31, Try.ntmps31
    go_wp2
    go_ret
    exact ⟨by rw [hd.out]; rfl, rfl⟩
set_option maxHeartbeats 1000000 in
theorem in_any (w : World) (i m : Int) : Calls Try.prog 32 #[.int .i64 i, .int .i64 m] w fun e w' => e = .returned (.bool (decide (0 ≤ i ∧ i < m))) ∧ w = w' := by
  by_cases h1 : 0 ≤ i
  · by_cases h2 : i < m
    · have d1 : decide (0 ≤ i) = true := by simpa using h1
      have d2 : decide (i < m) = true := by simpa using h2
      have hd : Hid (decide (0 ≤ i ∧ i < m) = true) := by show _ = _; rw [decide_eq_true_iff]; exact ⟨h1, h2⟩
      clear h1 h2
      go_enter Try.func32, Try.ntmps32
      go_wp2
      go_ret
      exact ⟨by rw [hd.out]; rfl, rfl⟩
    · have d1 : decide (0 ≤ i) = true := by simpa using h1
      have d2 : decide (i < m) = false := by simpa using h2
      have hd : Hid (decide (0 ≤ i ∧ i < m) = false) := by show _ = _; rw [decide_eq_false_iff_not]; exact fun h => h2 h.2
      clear h1 h2
      go_enter Try.func32, Try.ntmps32
      go_wp2
      go_ret
      exact ⟨by rw [hd.out]; rfl, rfl⟩
  · have d1 : decide (0 ≤ i) = false := by simpa using h1
    have hd : Hid (decide (0 ≤ i ∧ i < m) = false) := by show _ = _; rw [decide_eq_false_iff_not]; exact fun h => h1 h.1
    clear h1
    go_enter Try.func32, Try.ntmps32
    go_wp2
    go_ret
    exact ⟨by rw [hd.out]; rfl, rfl⟩
theorem i64_and1 (n : Int) : bits .and .i64 n 1 = n % 2 := by
  have h1 : (BitVec.ofInt 64 1).toNat = 2 ^ 1 - 1 := by decide
  have key : (BitVec.ofInt 64 n &&& BitVec.ofInt 64 1).toNat = (n % ((2 ^ 64 : Nat) : Int)).toNat % 2 ^ 1 := by
    rw [BitVec.toNat_and, BitVec.toNat_ofInt, h1, Nat.and_two_pow_sub_one_eq_mod]
  show IntKind.i64.wrap ((BitVec.ofInt 64 n &&& BitVec.ofInt 64 1).toNat : Nat) = n % 2
  rw [key, IntKind.wrap_i64]
  omega
theorem hasB_in {s : Int} {k : Nat} (h : k < 31) : hasB s k = decide ((s / 2 ^ k) % 2 = 1) := by
  unfold hasB
  rw [show (decide (0 ≤ (k : Int) ∧ (k : Int) < 31)) = true by rw [decide_eq_true_iff]; omega]
  simp
theorem half {s : Int} {k : Nat} : s / 2 ^ k / 2 = s / 2 ^ (k + 1) := by rw [Int.pow_succ, Int.ediv_ediv_of_nonneg]; exact Int.le_of_lt (Int.pow_pos (by omega))
theorem div_in {s : Int} (h : -9223372036854775808 ≤ s ∧ s ≤ 9223372036854775807) (k : Nat) : -9223372036854775808 ≤ s / 2 ^ k ∧ s / 2 ^ k ≤ 9223372036854775807 := by
  induction k with
  | zero => simpa using h
  | succ k ih => rw [← half]; omega
set_option maxHeartbeats 1000000 in
theorem has_any (w : World) (s i : Int) : Calls Try.prog 22 #[.int .i64 s, .int .i64 i] w fun e w' => e = .returned (.bool (hasB s i)) ∧ w = w' := by
  by_cases h : 0 ≤ i ∧ i < 31
  · have hd : Hid (decide (0 ≤ i ∧ i < 31) = true) := by show _ = _; rw [decide_eq_true_iff]; exact h
    obtain ⟨k, rfl⟩ : ∃ k : Nat, i = k := ⟨i.toNat, by omega⟩
    go_enter Try.func22, Try.ntmps22
    go_wp2_with (go_at_call 31; refine (number_any _ _).mono ?_; rintro e w' ⟨rfl, rfl⟩; rw [hd.out])
    go_ret
    refine ⟨?_, rfl⟩
    show Ending.returned (.bool (bits BinOp.and IntKind.i64 (s / 2 ^ k) 1 == 1)) = _
    rw [i64_and1, hasB_in (by omega)]
    congr 2
  · have hd : Hid (decide (0 ≤ i ∧ i < 31) = false) := by show _ = _; rw [decide_eq_false_iff_not]; exact h
    clear h
    have hb : Hid (hasB s i = false) := by show _ = _; unfold hasB; rw [hd.out]; rfl
    go_enter Try.func22, Try.ntmps22
    go_wp2_with (go_at_call 31; refine (number_any _ _).mono ?_; rintro e w' ⟨rfl, rfl⟩; rw [hd.out])
    go_ret
    exact ⟨by rw [hb.out]; rfl, rfl⟩
theorem tmod2 (y : Int) : (y.tmod 2 = 0 ∧ y % 2 = 0) ∨ (y.tmod 2 = 1 ∧ y % 2 = 1) ∨ (y.tmod 2 = -1 ∧ y % 2 = 1) := by
  rcases Int.lt_or_le y 0 with h | h
  · have e : y.tmod 2 = -((-y).tmod 2) := by rw [Int.neg_tmod, Int.neg_neg]
    rw [e, Int.tmod_eq_emod_of_nonneg (by omega)]
    omega
  · rw [Int.tmod_eq_emod_of_nonneg h]; omega
theorem tdiv2 (y : Int) (h : y % 2 = 0) : y.tdiv 2 = y / 2 := Int.tdiv_eq_ediv_of_dvd (Int.dvd_of_emod_eq_zero h)
set_option maxHeartbeats 2000000 in
theorem refHas_any (w : World) (s i : Int) (hs : -9223372036854775808 ≤ s ∧ s ≤ 9223372036854775807) : Calls Try.prog 23 #[.int .i64 s, .int .i64 i] w fun e w' => e = .returned (.bool (hasB s i)) ∧ w = w' := by
  by_cases h0 : i < 0
  · have hb : Hid (hasB s i = false) := by show _ = _; unfold hasB; rw [show decide (0 ≤ i ∧ i < 31) = false by rw [decide_eq_false_iff_not]; omega]; rfl
    have d1 : decide (i < 0) = true := by simpa using h0
    clear h0
    go_enter Try.func23, Try.ntmps23
    go_wp2
    go_ret
    exact ⟨by rw [hb.out]; rfl, rfl⟩
  have d1 : decide (i < 0) = false := by simpa using h0
  by_cases h1 : 30 < i
  · have hb : Hid (hasB s i = false) := by show _ = _; unfold hasB; rw [show decide (0 ≤ i ∧ i < 31) = false by rw [decide_eq_false_iff_not]; omega]; rfl
    have d2 : decide (30 < i) = true := by simpa using h1
    clear h0 h1
    go_enter Try.func23, Try.ntmps23
    go_wp2
    go_ret
    exact ⟨by rw [hb.out]; rfl, rfl⟩
  have d2 : decide (30 < i) = false := by simpa using h1
  obtain ⟨n, rfl⟩ : ∃ n : Nat, i = n := ⟨i.toNat, by omega⟩
  have hn : n < 31 := by omega
  have hb := Lib.hid (hasB_in (s := s) hn)
  have HS := Lib.hid hs
  clear h0 h1 hs
  go_enter Try.func23, Try.ntmps23
  go_wp2
  go_loopw [5, 0] (fun k x wr => ∃ (j : Nat) (y : Int), j ≤ n ∧ k = .int .i64 j ∧ x = .int .i64 y ∧ Hid (y = s / 2 ^ j) ∧ w = wr) (fun k _ _ => n - (intOf k).toNat)
  case atStart => exact ⟨0, s, Nat.zero_le _, rfl, rfl, Lib.hid (by simp), rfl⟩
  case round =>
    obtain ⟨j, y, hj, rfl, rfl, hy, rfl⟩ := hrel
    have hr : -9223372036854775808 ≤ y ∧ y ≤ 9223372036854775807 := by rw [hy.out]; exact div_in HS.out j
    by_cases hlt : j < n
    · rcases tmod2 y with ⟨hq, hq2⟩ | ⟨hq, hq2⟩ | ⟨hq, hq2⟩
      · have h2 := Lib.hid (tdiv2 y hq2)
        go_wp2
        go_roundw
        case rel => exact ⟨j + 1, y / 2, by omega, by go_num, by rw [h2.out], Lib.hid (by rw [hy.out, half]), by first | rfl | trivial⟩
        case measure => (simp [intOf] <;> omega)
      · have h2 := Lib.hid ((tdiv2 (y - 1) (by omega)).trans (show (y - 1) / 2 = y / 2 by omega))
        go_wp2
        go_roundw
        case rel => exact ⟨j + 1, y / 2, by omega, by go_num, by rw [h2.out], Lib.hid (by rw [hy.out, half]), by first | rfl | trivial⟩
        case measure => (simp [intOf] <;> omega)
      · have h2 := Lib.hid ((tdiv2 (y - 1) (by omega)).trans (show (y - 1) / 2 = y / 2 by omega))
        go_wp2
        go_roundw
        case rel => exact ⟨j + 1, y / 2, by omega, by go_num, by rw [h2.out], Lib.hid (by rw [hy.out, half]), by first | rfl | trivial⟩
        case measure => (simp [intOf] <;> omega)
    · obtain rfl : j = n := by omega
      rcases tmod2 y with ⟨hq, hq2⟩ | ⟨hq, hq2⟩ | ⟨hq, hq2⟩
      all_goals
        have hv : Hid (hasB s j = decide (y % 2 = 1)) := by show _ = _; rw [hb.out, hy.out]
        rw [hq2] at hv
        go_wp2
        go_ret
        exact ⟨by rw [hv.out]; rfl, rfl⟩
end Go.Proofs.Ytfnpfkjdcchipaa
