/- The walk of bits.First; and what stands in the program's Stuck, in plain words. -/
import Derived.Test.YtfnpfkjdcchipaaRefStuck
import Derived.Test.YtfnpfkjdcchipaaPairs
namespace Go.Proofs.Ytfnpfkjdcchipaa
open Go.RowKit

theorem i64_andLow (k : Nat) (hk : k ≤ 31) (n : Int) : bits .and .i64 n (2 ^ k - 1) = n % 2 ^ k := by
  have hp : (2 : Nat) ^ k ≤ 2 ^ 31 := Nat.pow_le_pow_right (by omega) hk
  have hp0 : 0 < (2 : Nat) ^ k := Nat.pow_pos (by omega)
  have e : ((2 : Int) ^ k - 1) = ((2 ^ k - 1 : Nat) : Int) := by
    rw [Int.natCast_sub hp0, Int.natCast_pow]; rfl
  have h1 : (BitVec.ofInt 64 (2 ^ k - 1)).toNat = 2 ^ k - 1 := by
    rw [e, BitVec.toNat_ofInt]
    omega
  have key : (BitVec.ofInt 64 n &&& BitVec.ofInt 64 (2 ^ k - 1)).toNat = (n % ((2 ^ 64 : Nat) : Int)).toNat % 2 ^ k := by
    rw [BitVec.toNat_and, BitVec.toNat_ofInt, h1, Nat.and_two_pow_sub_one_eq_mod]
  show IntKind.i64.wrap ((BitVec.ofInt 64 n &&& BitVec.ofInt 64 (2 ^ k - 1)).toNat : Nat) = n % 2 ^ k
  have hdvd : ((2 : Int) ^ k) ∣ ((2 ^ 64 : Nat) : Int) := by
    refine ⟨2 ^ (64 - k), ?_⟩
    rw [← Int.pow_add, show k + (64 - k) = 64 by omega]; rfl
  have hnn : 0 ≤ n % ((2 ^ 64 : Nat) : Int) := Int.emod_nonneg _ (by decide)
  have key2 : ((((n % ((2 ^ 64 : Nat) : Int)).toNat % 2 ^ k : Nat)) : Int) = n % 2 ^ k := by
    rw [Int.natCast_emod, Int.toNat_of_nonneg hnn, Int.natCast_pow]
    exact Int.emod_emod_of_dvd n hdvd
  rw [key, key2]
  have hlt : n % 2 ^ k < 2 ^ k := Int.emod_lt_of_pos _ (Int.pow_pos (by omega))
  have hge : 0 ≤ n % 2 ^ k := Int.emod_nonneg _ (by have := Int.pow_pos (n := 2) (m := k) (by omega); omega)
  have hp2 : (2 : Int) ^ k ≤ 2 ^ 31 := by
    have : ((2 ^ k : Nat) : Int) ≤ ((2 ^ 31 : Nat) : Int) := by omega
    rwa [Int.natCast_pow, Int.natCast_pow] at this
  exact IntWalk.i64_in _ (by omega)
theorem low_zero (s : Int) : ∀ k : Nat, s % 2 ^ k = 0 ↔ ∀ i : Nat, i < k → (s / 2 ^ i) % 2 = 0
  | 0 => by simp
  | k + 1 => by
    have hsplit : s % 2 ^ (k + 1) = s % 2 ^ k + 2 ^ k * ((s / 2 ^ k) % 2) := by
      obtain ⟨p, hp⟩ : ∃ p : Int, p = 2 ^ k := ⟨_, rfl⟩
      have hp0 : 0 ≤ p := by rw [hp]; exact Int.le_of_lt (Int.pow_pos (by omega))
      rw [Int.pow_succ, ← hp]
      rw [Int.emod_def s (p * 2), Int.emod_def s p, Int.emod_def (s / p) 2, ← Int.ediv_ediv_of_nonneg hp0, Int.mul_sub, Int.mul_assoc]
      generalize p * (s / p) = X
      generalize p * (2 * (s / p / 2)) = Y
      omega
    have hge : 0 ≤ s % 2 ^ k := Int.emod_nonneg _ (by have := Int.pow_pos (n := 2) (m := k) (by omega); omega)
    have hp : (0 : Int) < 2 ^ k := Int.pow_pos (by omega)
    rw [hsplit]
    constructor
    · intro h i hi
      have h2 : 0 ≤ (s / 2 ^ k) % 2 := by omega
      have h3 : 0 ≤ 2 ^ k * ((s / 2 ^ k) % 2) := Int.mul_nonneg (by omega) h2
      have h4 : s % 2 ^ k = 0 := by omega
      have h5 : 2 ^ k * ((s / 2 ^ k) % 2) = 0 := by omega
      rcases Nat.lt_or_ge i k with h6 | h6
      · exact (low_zero s k).1 h4 i h6
      · obtain rfl : i = k := by omega
        rcases Int.mul_eq_zero.1 h5 with h7 | h7
        · omega
        · exact h7
    · intro h
      rw [(low_zero s k).2 (fun i hi => h i (by omega)), h k (by omega)]
      simp
theorem opUp_low (m : MC) (s : SC) (h : m.nS ≤ 31) : (bits .and .i64 s.op (2 ^ m.nS - 1) == 0) = !opUp m s m.nS := by
  rw [i64_andLow m.nS h]
  cases hu : opUp m s m.nS with
  | false =>
    rw [Bool.not_false, beq_iff_eq, low_zero]
    intro i hi
    unfold opUp at hu
    rw [List.any_eq_false] at hu
    have := hu i (List.mem_range.2 hi)
    rw [hasB_in (by omega), decide_eq_true_iff] at this
    omega
  | true =>
    rw [Bool.not_true, beq_eq_false_iff_ne]
    intro h0
    unfold opUp at hu
    rw [List.any_eq_true] at hu
    obtain ⟨i, hi, hb⟩ := hu
    rw [List.mem_range] at hi
    rw [hasB_in (by omega), decide_eq_true_iff] at hb
    have := (low_zero s.op m.nS).1 h0 i hi
    omega
set_option maxHeartbeats 1000000 in
theorem first_any (w : World) (n : Nat) (hn : n ≤ 31) : Calls Try.prog 24 #[.int .i64 n] w fun e w' => e = .returned (.int .i64 (2 ^ n - 1)) ∧ w = w' := by
  go_enter Try.func24, Try.ntmps24
  go_wp2
  · have hp0 : (0 : Int) < 2 ^ n := Int.pow_pos (by omega)
    have hp : (2 : Nat) ^ n ≤ 2 ^ 31 := Nat.pow_le_pow_right (by omega) hn
    have hp2 : (2 : Int) ^ n ≤ 2 ^ 31 := by
      have : ((2 ^ n : Nat) : Int) ≤ ((2 ^ 31 : Nat) : Int) := by omega
      rwa [Int.natCast_pow, Int.natCast_pow] at this
    go_ret
    refine ⟨?_, rfl⟩
    show Ending.returned (.int .i64 (wrap64 (wrap64 (2 ^ n) - 1))) = _
    rw [← IntWalk.i64_left (2 ^ n), IntWalk.i64_in (2 ^ n) (by omega), ← IntWalk.i64_left, IntWalk.i64_in _ (by omega)]
  · have h : ¬ 0 < n := by assumption
    obtain rfl : n = 0 := by omega
    go_ret
    refine ⟨?_, rfl⟩
    show Ending.returned (.int .i64 (wrap64 (wrap64 1 - 1))) = _
    rw [show wrap64 (wrap64 1 - 1) = 0 by decide +kernel]
    rfl
end Go.Proofs.Ytfnpfkjdcchipaa
