/- The walk of New. -/
import Derived.Test.YtjdchelgpniliaaPut
import Derived.Deep.OwnRows
namespace Go.Proofs.Ytjdchelgpniliaa
open Go.RowKit

def NewDone (w w' : World) : Prop :=
  ∃ m, TabAt w' (w.heap.size + 1) w.heap.size m (.slice none 0 0) (.slice none 0 0) (List.replicate m (-1)) [] [] ∧ Chg (fun _ => False) w w' ∧ w.heap.size + 1 < w'.heap.size

theorem bits_cases (bits : Int) : ∃ m : Nat, (∃ j, j ≤ 16 ∧ m = 2 ^ j) ∧ ((16 < bits ∧ (m : Int) = 65536) ∨ (0 < bits ∧ bits ≤ 16 ∧ wrap64 (2 ^ bits.toNat) = (m : Int)) ∨ (bits ≤ 0 ∧ (m : Int) = 1)) := by
  by_cases h1 : 16 < bits
  · exact ⟨65536, ⟨16, by omega, by decide⟩, .inl ⟨h1, rfl⟩⟩
  · by_cases h0 : 0 < bits
    · refine ⟨2 ^ bits.toNat, ⟨bits.toNat, by omega, rfl⟩, .inr (.inl ⟨h0, by omega, ?_⟩)⟩
      have h2 : 2 ^ bits.toNat ≤ 2 ^ 16 := Nat.pow_le_pow_right (by omega) (by omega)
      have h3 := Nat.two_pow_pos bits.toNat
      have h4 : ((2 ^ bits.toNat : Nat) : Int) = (2 : Int) ^ bits.toNat := by simp
      rw [← h4]
      exact IntWalk.wrap64_in _ (by omega)
    · exact ⟨1, ⟨0, by omega, rfl⟩, .inr (.inr ⟨by omega, rfl⟩)⟩

theorem fill_step (m k : Nat) (hk : k < m) : ((List.replicate k (Value.int .i64 (-1)) ++ List.replicate (m - k) (Value.int .i64 0)).toArray).setIfInBounds k (.int .i64 (-1)) = (List.replicate (k + 1) (Value.int .i64 (-1)) ++ List.replicate (m - (k + 1)) (Value.int .i64 0)).toArray := by
  rw [show m - k = (m - (k + 1)) + 1 from by omega, List.replicate_succ (n := m - (k + 1)), List.setIfInBounds_toArray, List.set_append_right _ _ (by simp)]
  simp only [List.length_replicate, Nat.sub_self, List.set_cons_zero, List.replicate_succ' (n := k), List.append_assoc, List.singleton_append]

set_option maxHeartbeats 1600000 in
theorem new_any (w : World) (bits : Int) :
    Calls Try.prog 11 #[.int .i64 bits] w fun e w' => e = .returned (.pointer (some ⟨w.heap.size + 1, 0, none⟩)) ∧ NewDone w w' := by
  obtain ⟨m, hpow, hcase⟩ := bits_cases bits
  have hm : 0 < m ∧ m ≤ 65536 := by
    obtain ⟨j, hj, rfl⟩ := hpow
    exact ⟨Nat.two_pow_pos j, Nat.pow_le_pow_right (by omega) hj⟩
  obtain ⟨hm0, hm1⟩ := hm
  have hpow := Lib.hid hpow
  have hmk := run_make_row' (P := Try.prog) 38 3 (.int .i64 0) 8 Try.underlying38 int_info rfl .i64 .i64 m (by omega) (by omega)
  obtain ⟨cs0, hcs0⟩ : ∃ cs0, cs0 = madeCells #[Value.int .i64 0] m := ⟨_, rfl⟩
  have hcs : Hid (cs0 = (List.replicate 0 (Value.int .i64 (-1)) ++ List.replicate (m - 0) (Value.int .i64 0)).toArray) := by
    show cs0 = _
    rw [hcs0, List.replicate_zero, List.nil_append, Nat.sub_zero, ← toList_madeCells_one]
  rw [← hcs0] at hmk
  clear hcs0
  rcases hcase with ⟨hb, hwr⟩ | ⟨hb, hb', hwr⟩ | ⟨hb, hwr⟩
  · rw [hwr] at hmk; clear hwr
    go_enter Try.func11, Try.ntmps11
    go_wp2
    go_loopw [4, 17] (fun _ c wr => ∃ k : Nat, k ≤ m ∧ c = .int .i64 k ∧ Hid (Blk wr w.heap.size 3 (List.replicate k (Value.int .i64 (-1)) ++ List.replicate (m - k) (Value.int .i64 0)).toArray) ∧
        Hid (Blk wr (w.heap.size + 1) 40 #[.slice (some ⟨w.heap.size, 0, none⟩) m m, .slice none 0 0, .slice none 0 0]) ∧ Hid (Chg (fun _ => False) w wr)) (fun _ c _ => m - (intOf c).toNat)
    case atStart =>
      refine ⟨0, Nat.zero_le _, rfl, ?_, ?_, ?_⟩
      · rw [← hcs.out]; exact (Blk.new w 3 cs0).alloc _
      · show Blk _ _ _ _
        have := Blk.new (w.alloc (.cells cs0 3)) 40 #[.slice (some ⟨w.heap.size, 0, none⟩) m m, .slice none 0 0, .slice none 0 0]
        simpa using this
      · exact ((Chg.refl _ w).alloc _).alloc _
    case round =>
      obtain ⟨k, hk, rfl, hH, hB, hC⟩ := hrel
      have c0 : wr.cell? ⟨w.heap.size + 1, 0, none⟩ = some (.slice (some ⟨w.heap.size, 0, none⟩) m m) := by rw [hB.out.cell]; rfl
      by_cases hlt : k < m
      · have ck : wr.cell? ⟨w.heap.size, k, none⟩ = some (.int .i64 0) := by
          rw [hH.out.cell]
          simp only [List.getElem?_toArray]
          rw [List.getElem?_append_right (by simp)]
          simp [List.getElem?_replicate]
          omega
        have fk := hH.out.frozen k
        have hH2 := Lib.hid (hH.out.set k (.int .i64 (-1)))
        have hB2 := Lib.hid (hB.out.far (p := ⟨w.heap.size, k, none⟩) (by simp) (.int .i64 (-1)))
        have hC2 := Lib.hid (Chg.setCell hC.out (p := ⟨w.heap.size, k, none⟩) (.inr (Nat.le_refl _)) (.int .i64 (-1)))
        clear hH hB hC
        go_wp2
        go_roundw
        case rel => exact ⟨k + 1, by omega, by go_num, by rw [← fill_step m k hlt]; exact hH2, hB2, hC2⟩
        case measure => simp [intOf]; omega
      · obtain rfl : k = m := by omega
        go_wp2
        go_ret
        refine ⟨rfl, k, ⟨hB.out, ?_, World.ownsRow_nil _ _ _ _, World.ownsRow_nil _ _ _ _, by simp [Value.ownBlock], hpow.out, by simp, Tb.chain_nil k, by simp⟩, hC.out, hB.out.lt⟩
        have := hH.out
        simp only [Nat.sub_self, List.replicate_zero, List.append_nil] at this
        simpa using this
  · go_enter Try.func11, Try.ntmps11
    go_wp2
    go_loopw [4, 17] (fun _ c wr => ∃ k : Nat, k ≤ m ∧ c = .int .i64 k ∧ Hid (Blk wr w.heap.size 3 (List.replicate k (Value.int .i64 (-1)) ++ List.replicate (m - k) (Value.int .i64 0)).toArray) ∧
        Hid (Blk wr (w.heap.size + 1) 40 #[.slice (some ⟨w.heap.size, 0, none⟩) m m, .slice none 0 0, .slice none 0 0]) ∧ Hid (Chg (fun _ => False) w wr)) (fun _ c _ => m - (intOf c).toNat)
    case atStart =>
      refine ⟨0, Nat.zero_le _, rfl, ?_, ?_, ?_⟩
      · rw [← hcs.out]; exact (Blk.new w 3 cs0).alloc _
      · show Blk _ _ _ _
        have := Blk.new (w.alloc (.cells cs0 3)) 40 #[.slice (some ⟨w.heap.size, 0, none⟩) m m, .slice none 0 0, .slice none 0 0]
        simpa using this
      · exact ((Chg.refl _ w).alloc _).alloc _
    case round =>
      obtain ⟨k, hk, rfl, hH, hB, hC⟩ := hrel
      have c0 : wr.cell? ⟨w.heap.size + 1, 0, none⟩ = some (.slice (some ⟨w.heap.size, 0, none⟩) m m) := by rw [hB.out.cell]; rfl
      by_cases hlt : k < m
      · have ck : wr.cell? ⟨w.heap.size, k, none⟩ = some (.int .i64 0) := by
          rw [hH.out.cell]
          simp only [List.getElem?_toArray]
          rw [List.getElem?_append_right (by simp)]
          simp [List.getElem?_replicate]
          omega
        have fk := hH.out.frozen k
        have hH2 := Lib.hid (hH.out.set k (.int .i64 (-1)))
        have hB2 := Lib.hid (hB.out.far (p := ⟨w.heap.size, k, none⟩) (by simp) (.int .i64 (-1)))
        have hC2 := Lib.hid (Chg.setCell hC.out (p := ⟨w.heap.size, k, none⟩) (.inr (Nat.le_refl _)) (.int .i64 (-1)))
        clear hH hB hC
        go_wp2
        go_roundw
        case rel => exact ⟨k + 1, by omega, by go_num, by rw [← fill_step m k hlt]; exact hH2, hB2, hC2⟩
        case measure => simp [intOf]; omega
      · obtain rfl : k = m := by omega
        go_wp2
        go_ret
        refine ⟨rfl, k, ⟨hB.out, ?_, World.ownsRow_nil _ _ _ _, World.ownsRow_nil _ _ _ _, by simp [Value.ownBlock], hpow.out, by simp, Tb.chain_nil k, by simp⟩, hC.out, hB.out.lt⟩
        have := hH.out
        simp only [Nat.sub_self, List.replicate_zero, List.append_nil] at this
        simpa using this
  · rw [hwr] at hmk; clear hwr
    go_enter Try.func11, Try.ntmps11
    go_wp2
    go_loopw [4, 17] (fun _ c wr => ∃ k : Nat, k ≤ m ∧ c = .int .i64 k ∧ Hid (Blk wr w.heap.size 3 (List.replicate k (Value.int .i64 (-1)) ++ List.replicate (m - k) (Value.int .i64 0)).toArray) ∧
        Hid (Blk wr (w.heap.size + 1) 40 #[.slice (some ⟨w.heap.size, 0, none⟩) m m, .slice none 0 0, .slice none 0 0]) ∧ Hid (Chg (fun _ => False) w wr)) (fun _ c _ => m - (intOf c).toNat)
    case atStart =>
      refine ⟨0, Nat.zero_le _, rfl, ?_, ?_, ?_⟩
      · rw [← hcs.out]; exact (Blk.new w 3 cs0).alloc _
      · show Blk _ _ _ _
        have := Blk.new (w.alloc (.cells cs0 3)) 40 #[.slice (some ⟨w.heap.size, 0, none⟩) m m, .slice none 0 0, .slice none 0 0]
        simpa using this
      · exact ((Chg.refl _ w).alloc _).alloc _
    case round =>
      obtain ⟨k, hk, rfl, hH, hB, hC⟩ := hrel
      have c0 : wr.cell? ⟨w.heap.size + 1, 0, none⟩ = some (.slice (some ⟨w.heap.size, 0, none⟩) m m) := by rw [hB.out.cell]; rfl
      by_cases hlt : k < m
      · have ck : wr.cell? ⟨w.heap.size, k, none⟩ = some (.int .i64 0) := by
          rw [hH.out.cell]
          simp only [List.getElem?_toArray]
          rw [List.getElem?_append_right (by simp)]
          simp [List.getElem?_replicate]
          omega
        have fk := hH.out.frozen k
        have hH2 := Lib.hid (hH.out.set k (.int .i64 (-1)))
        have hB2 := Lib.hid (hB.out.far (p := ⟨w.heap.size, k, none⟩) (by simp) (.int .i64 (-1)))
        have hC2 := Lib.hid (Chg.setCell hC.out (p := ⟨w.heap.size, k, none⟩) (.inr (Nat.le_refl _)) (.int .i64 (-1)))
        clear hH hB hC
        go_wp2
        go_roundw
        case rel => exact ⟨k + 1, by omega, by go_num, by rw [← fill_step m k hlt]; exact hH2, hB2, hC2⟩
        case measure => simp [intOf]; omega
      · obtain rfl : k = m := by omega
        go_wp2
        go_ret
        refine ⟨rfl, k, ⟨hB.out, ?_, World.ownsRow_nil _ _ _ _, World.ownsRow_nil _ _ _ _, by simp [Value.ownBlock], hpow.out, by simp, Tb.chain_nil k, by simp⟩, hC.out, hB.out.lt⟩
        have := hH.out
        simp only [Nat.sub_self, List.replicate_zero, List.append_nil] at this
        simpa using this

set_option maxHeartbeats 400000 in
theorem refFind_any (w : World) (B : Nat) (A : Option Addr) (n c : Nat) (ts : List ByteArray) (s : ByteArray) (hn : n = ts.length) (hl : ts.length ≤ 1000000) (h : Rd w B A (ts.map Value.string)) :
    Calls Try.prog 14 #[.slice A n c, .string s] w fun e w' => e = .returned (.int .i64 (Tb.idx ts s)) ∧ w = w' := by
  subst hn
  have h := Lib.hid h
  go_enter Try.func14, Try.ntmps14
  go_wp2
  go_loop [5] (fun i => ∃ k : Nat, k ≤ ts.length ∧ i = .int .i64 k ∧ Hid (∀ j (hj : j < ts.length), j < k → ts[j] ≠ s)) (fun i => ts.length - (intOf i).toNat)
  case atStart => exact ⟨0, Nat.zero_le _, rfl, fun j _ hj => by omega⟩
  case round =>
    obtain ⟨k, hk, rfl, hno⟩ := hrel
    by_cases hlt : k < ts.length
    · obtain ⟨ad, rfl, _, hc⟩ := h.out.at (k := k) (by simpa using hlt)
      rw [List.getElem_map] at hc
      by_cases he : ts[k] = s
      · have hin := Lib.hid (Tb.idx_hit hlt he (fun j hj hjk => hno.out j hj hjk))
        rw [he] at hc
        have hs := str_same s
        clear he hno
        go_wp2
        go_ret
        exact ⟨ret_int hin.out.symm, rfl⟩
      · have hne := str_ne he
        obtain ⟨u, hu⟩ : ∃ u, u = ts[k] := ⟨_, rfl⟩
        have he' : Hid (ts[k] ≠ s) := he
        rw [← hu] at hne hc
        clear hu he
        go_wp2
        go_round
        case rel =>
          refine ⟨k + 1, by omega, by go_num, fun j hj hjk => ?_⟩
          rcases Nat.lt_or_ge j k with h1 | h1
          · exact hno.out j hj h1
          · obtain rfl : j = k := by omega
            exact he'.out
        case measure => simp [intOf]; omega
    · have hin := Lib.hid (Tb.idx_miss (ts := ts) (s := s) (fun j hj => hno.out j hj (by omega)))
      go_wp2
      go_ret
      exact ⟨ret_int hin.out.symm, rfl⟩

def MuchDone (n : Nat) (e : Ending) : Prop := ∃ b, e = .returned (.bool b) ∧ (b = false → n ≤ 200)
set_option maxHeartbeats 400000 in
theorem much_any (w : World) (B : Nat) (A : Option Addr) (n c : Nat) (ts : List ByteArray) (hn : n = ts.length) (hl : ts.length ≤ maxLen) (h : Rd w B A (ts.map Value.string)) :
    Calls Try.prog 10 #[.slice A n c] w fun e w' => MuchDone ts.length e ∧ w = w' := by
  subst hn
  unfold maxLen at hl
  have H := Lib.hid h
  clear h
  go_enter Try.func10, Try.ntmps10
  go_wp2
  go_loop [3, 4] (fun m i => ∃ (k : Nat) (x : Int), k ≤ ts.length ∧ i = .int .i64 k ∧ m = .int .i64 x) (fun _ i => ts.length - (intOf i).toNat)
  case atStart => exact ⟨0, 0, Nat.zero_le _, rfl, rfl⟩
  case round =>
    obtain ⟨k, x, hk, rfl, rfl⟩ := hrel
    by_cases hlt : k < ts.length
    · obtain ⟨ad, rfl, _, hc⟩ := H.out.at (k := k) (by simpa using hlt)
      rw [List.getElem_map] at hc
      obtain ⟨u, hu⟩ : ∃ u, u = ts[k] := ⟨_, rfl⟩
      rw [← hu] at hc
      clear hu
      go_wp2
      go_round
      case rel => exact ⟨k + 1, _, by omega, by go_num, rfl⟩
      case measure => simp [intOf]; omega
    · by_cases h2 : 200 < ts.length
      · go_wp2
        go_ret
        exact ⟨⟨_, rfl, fun h => by simp at h⟩, rfl⟩
      · go_wp2
        go_ret
        exact ⟨⟨_, rfl, fun _ => by omega⟩, rfl⟩
end Go.Proofs.Ytjdchelgpniliaa
