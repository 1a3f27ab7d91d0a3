/- The walks of table.Sum and of the reference's Sum. -/
import Derived.Test.YtjdchelgpniliaaRows
import Derived.Test.YtjdchelgpniliaaPlain
import Derived.Test.YtjdchelgpniliaaLib
namespace Go.Proofs.Ytjdchelgpniliaa
open Go.RowKit

theorem step_u32 (a c : Nat) (ha : a < 4294967296) (hc : c < 256) : bits .xor .u32 (a : Int) ((c : Int) % 4294967296) * 16777619 % 4294967296 = ((Tb.stepN a c : Nat) : Int) := by
  rw [show ((c : Int) % 4294967296) = ((c : Nat) : Int) from by omega, u32_xor_nat a c ha (by omega)]
  unfold Tb.stepN
  omega

set_option maxHeartbeats 400000 in
theorem sum_any (s : ByteArray) (w : World) (hs : s.size ≤ maxLen) :
    Calls Try.prog 8 #[.string s] w fun e w' => e = .returned (.int .u32 (Tb.sumN s.data.toList)) ∧ w = w' := by
  unfold maxLen at hs
  go_enter Try.func8, Try.ntmps8
  go_wp2
  go_loop [3, 7] (fun n i => ∃ k : Nat, k ≤ s.size ∧ i = .int .i64 k ∧ n = .int .u32 (Tb.sumN (s.data.toList.take k))) (fun _ i => s.size - (intOf i).toNat)
  case atStart => exact ⟨0, Nat.zero_le _, rfl, rfl⟩
  case round =>
    obtain ⟨k, hk, rfl, rfl⟩ := hrel
    by_cases hlt : k < s.size
    · go_wp2
      go_round
      case rel => exact ⟨k + 1, by omega, by go_num, by rw [take_snoc s k hlt, Tb.sumN_snoc, step_u32 _ _ (Tb.sumN_lt _) (UInt8.toNat_lt _)]⟩
      case measure => simp [intOf]; omega
    · go_wp2
      go_ret
      exact ⟨ret_int (by rw [List.take_of_length_le (by simp; omega)]), rfl⟩

set_option maxHeartbeats 400000 in
theorem refSum_any (s : ByteArray) (w : World) (hs : s.size ≤ maxLen) :
    Calls Try.prog 9 #[.string s] w fun e w' => e = .returned (.int .i64 (Tb.sumN s.data.toList)) ∧ w = w' := by
  unfold maxLen at hs
  go_enter Try.func9, Try.ntmps9
  go_wp2
  go_loop [3, 4] (fun n i => ∃ k : Nat, k ≤ s.size ∧ i = .int .i64 k ∧ n = .int .i64 (Tb.sumN (s.data.toList.take k))) (fun _ i => s.size - (intOf i).toNat)
  case atStart => exact ⟨0, Nat.zero_le _, rfl, rfl⟩
  case round =>
    obtain ⟨k, hk, rfl, rfl⟩ := hrel
    by_cases hlt : k < s.size
    · obtain ⟨H, hH⟩ : ∃ H, H = Tb.sumN (s.data.toList.take k) := ⟨_, rfl⟩
      have hHlt : H < 4294967296 := by rw [hH]; exact Tb.sumN_lt _
      rw [← hH]
      have HH := Lib.hid hH; clear hH
      obtain ⟨C, hC⟩ : ∃ C, C = s[k].toNat := ⟨_, rfl⟩
      have hClt : C < 256 := by rw [hC]; exact UInt8.toNat_lt _
      have hC' : ((s[k].toNat : Nat) : Int) = (C : Int) := by rw [hC]
      have HC := Lib.hid hC; clear hC
      go_wp2
      go_loop [5, 6, 7, 8, 9] (fun c l x p i => ∃ (k a b p' x' : Nat), k ≤ 8 ∧ Hid (Tb.Inv (H % 256) C k a b p' x') ∧ c = .int .i64 b ∧ l = .int .i64 a ∧ x = .int .i64 x' ∧ p = .int .i64 p' ∧ i = .int .i64 k) (fun _ _ _ _ i => 8 - (intOf i).toNat)
      case atStart => exact ⟨0, H % 256, C, 1, 0, by omega, Tb.inv_zero _ _, rfl, by go_num, rfl, rfl, rfl⟩
      case round =>
        obtain ⟨j, a, b, p', x', hj, hI, rfl, rfl, rfl, rfl, rfl⟩ := hrel
        obtain ⟨ba, bb, bp, bx⟩ := Tb.inv_bound hI.out (Nat.mod_lt _ (by decide)) hClt hj
        by_cases hj8 : j < 8
        · by_cases hab : a % 2 = b % 2
          · have N1 := Lib.hid (Tb.inv_eq hI.out hab)
            have hab' : ((a : Int) % 2 != (b : Int) % 2) = false := by simp; omega
            clear hab
            go_wp2
            go_round
            case rel => exact ⟨j + 1, _, _, _, _, by omega, N1, by go_num, by go_num, by go_num, by go_num, by go_num⟩
            case measure => simp [intOf]; omega
          · have N1 := Lib.hid (Tb.inv_ne hI.out hab)
            have hab' : ((a : Int) % 2 != (b : Int) % 2) = true := by simp; omega
            clear hab
            go_wp2
            go_round
            case rel => exact ⟨j + 1, _, _, _, _, by omega, N1, by go_num, by go_num, by go_num, by go_num, by go_num⟩
            case measure => simp [intOf]; omega
        · obtain rfl : j = 8 := by omega
          have N1 := Lib.hid (Tb.inv_end hI.out hClt)
          clear hI
          go_wp2
          go_round
          case rel =>
            refine ⟨k + 1, by omega, by go_num, ?_⟩
            rw [take_snoc s k hlt, Tb.sumN_snoc, ← HH.out, ← HC.out, ← N1.out]
            go_num
          case measure => simp [intOf]; omega
    · go_wp2
      go_ret
      exact ⟨ret_int (by rw [List.take_of_length_le (by simp; omega)]), rfl⟩
end Go.Proofs.Ytjdchelgpniliaa
