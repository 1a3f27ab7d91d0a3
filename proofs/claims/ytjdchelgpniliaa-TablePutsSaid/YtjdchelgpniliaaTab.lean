/- The table in memory, and the walks of its readers: made, head, Find, Text, Len. -/
import Derived.Test.YtjdchelgpniliaaSums
import Derived.Deep.QuietTactic
import Derived.BigQuiet
namespace Go.Proofs.Ytjdchelgpniliaa
open Go.RowKit

/-- A table in memory: its struct at block b, its heads' row at block hb; next and texts are owned. -/
structure TabAt (w : World) (b hb m : Nat) (nv tv : Value) (hs nx : List Int) (ts : List ByteArray) : Prop where
  str : Blk w b 40 #[.slice (some ⟨hb, 0, none⟩) m m, nv, tv]
  heads : Blk w hb 3 (hs.map (Value.int .i64)).toArray
  nxo : w.ownsRow 0 3 1 nv ts.length (nx.map (Value.int .i64))
  txo : w.ownsRow 0 9 1 tv ts.length (ts.map Value.string)
  apart : nv.ownBlock ≠ some hb
  pow : ∃ j, j ≤ 16 ∧ m = 2 ^ j
  few : ts.length ≤ 1000000
  chain : Tb.Chain m hs nx ts
  distinct : ts.Nodup

theorem TabAt.m_bd {w : World} {b hb m : Nat} {nv tv : Value} {hs nx : List Int} {ts : List ByteArray} (h : TabAt w b hb m nv tv hs nx ts) : 0 < m ∧ m ≤ 65536 := by
  obtain ⟨j, hj, rfl⟩ := h.pow
  exact ⟨Nat.two_pow_pos j, Nat.pow_le_pow_right (by omega) hj⟩

set_option maxHeartbeats 400000 in
theorem made_any (w : World) (b : Nat) (A : Option Addr) (n c : Nat) (hc : w.cell? ⟨b, 0, none⟩ = some (.slice A n c)) :
    Calls Try.prog 17 #[.pointer (some ⟨b, 0, none⟩)] w fun e w' => e = .returned (.bool (decide (0 < n))) ∧ w = w' := by
  go_enter Try.func17, Try.ntmps17
  go_wp2
  go_ret
  exact ⟨rfl, rfl⟩
set_option maxHeartbeats 400000 in
theorem made_nil (w : World) :
    Calls Try.prog 17 #[.pointer none] w fun e w' => e = .returned (.bool false) ∧ w = w' := by
  go_enter Try.func17, Try.ntmps17
  go_wp2
  go_ret
  exact ⟨rfl, rfl⟩
set_option maxHeartbeats 400000 in
theorem len_any (w : World) (b : Nat) (A : Option Addr) (n c : Nat) (hc : w.cell? ⟨b, 2, none⟩ = some (.slice A n c)) :
    Calls Try.prog 13 #[.pointer (some ⟨b, 0, none⟩)] w fun e w' => e = .returned (.int .i64 n) ∧ w = w' := by
  go_enter Try.func13, Try.ntmps13
  go_wp2
  go_ret
  exact ⟨rfl, rfl⟩
set_option maxHeartbeats 400000 in
theorem len_nil (w : World) :
    Calls Try.prog 13 #[.pointer none] w fun e w' => e = .returned (.int .i64 0) ∧ w = w' := by
  go_enter Try.func13, Try.ntmps13
  go_wp2
  go_ret
  exact ⟨rfl, rfl⟩
set_option maxHeartbeats 400000 in
theorem text_nil (w : World) (i : Int) :
    Calls Try.prog 15 #[.pointer none, .int .i64 i] w fun e w' => e = .returned (.string ⟨#[]⟩) ∧ w = w' := by
  go_enter Try.func15, Try.ntmps15
  go_wp2
  go_ret
  exact ⟨rfl, rfl⟩
set_option maxHeartbeats 400000 in
theorem text_out (w : World) (b : Nat) (A : Option Addr) (n c : Nat) (i : Int) (hc : w.cell? ⟨b, 2, none⟩ = some (.slice A n c)) (hi : i < 0 ∨ (n : Int) ≤ i) :
    Calls Try.prog 15 #[.pointer (some ⟨b, 0, none⟩), .int .i64 i] w fun e w' => e = .returned (.string ⟨#[]⟩) ∧ w = w' := by
  rcases hi with hi | hi
  · have h1 : decide (i < 0) = true := by simpa using hi
    go_enter Try.func15, Try.ntmps15
    go_wp2
    go_ret
    exact ⟨rfl, rfl⟩
  · have h1 : decide (i < 0) = false := by simp; omega
    have h2 : decide ((n : Int) ≤ i) = true := by simpa using hi
    go_enter Try.func15, Try.ntmps15
    go_wp2
    go_ret
    exact ⟨rfl, rfl⟩
set_option maxHeartbeats 400000 in
theorem text_in (w : World) (b g : Nat) (n c : Nat) (i : Nat) (s : ByteArray) (hc : w.cell? ⟨b, 2, none⟩ = some (.slice (some ⟨g, 0, none⟩) n c)) (hi : i < n) (hs : w.cell? ⟨g, i, none⟩ = some (.string s)) :
    Calls Try.prog 15 #[.pointer (some ⟨b, 0, none⟩), .int .i64 i] w fun e w' => e = .returned (.string s) ∧ w = w' := by
  have h1 : decide ((i : Int) < 0) = false := by simp
  have h2 : decide ((n : Int) ≤ i) = false := by simp; omega
  go_enter Try.func15, Try.ntmps15
  go_wp2
  go_ret
  exact ⟨rfl, rfl⟩

theorem ofInt_i64 (a : Nat) (ha : a < 9223372036854775808) : (BitVec.ofInt 64 (a : Int)).toNat = a := by
  rw [BitVec.ofInt_natCast, BitVec.toNat_ofNat]; exact Nat.mod_eq_of_lt (by omega)
theorem i64_and_nat (a b : Nat) (ha : a < 9223372036854775808) (hb : b < 9223372036854775808) : bits .and .i64 (a : Int) (b : Int) = ((a &&& b : Nat) : Int) := by
  have hx : a &&& b < 2 ^ 63 := Nat.and_lt_two_pow _ (by omega)
  show IntKind.i64.wrap ((BitVec.ofInt 64 (a : Int) &&& BitVec.ofInt 64 (b : Int)).toNat : Int) = _
  rw [BitVec.toNat_and, ofInt_i64 a ha, ofInt_i64 b hb, IntKind.wrap_i64]
  omega
theorem and_bkt (m : Nat) (s : ByteArray) (hp : ∃ j, j ≤ 16 ∧ m = 2 ^ j) : bits .and .i64 (Tb.sumN s.data.toList : Int) ((m : Int) - 1) = (Tb.bkt m s : Int) := by
  obtain ⟨j, hj, rfl⟩ := hp
  have h1 : 2 ^ j ≤ 2 ^ 16 := Nat.pow_le_pow_right (by omega) hj
  have h0 := Nat.two_pow_pos j
  have h2 := Tb.sumN_lt s.data.toList
  rw [show ((2 ^ j : Nat) : Int) - 1 = ((2 ^ j - 1 : Nat) : Int) from by omega, i64_and_nat _ _ (by omega) (by omega), Nat.and_two_pow_sub_one_eq_mod]
  rfl

set_option maxHeartbeats 400000 in
theorem head_any (w : World) (b hb m : Nat) (s : ByteArray) (hs : s.size ≤ maxLen) (hp : ∃ j, j ≤ 16 ∧ m = 2 ^ j) (hc : w.cell? ⟨b, 0, none⟩ = some (.slice (some ⟨hb, 0, none⟩) m m)) :
    Calls Try.prog 18 #[.pointer (some ⟨b, 0, none⟩), .string s] w fun e w' => e = .returned (.pointer (some ⟨hb, Tb.bkt m s, none⟩)) ∧ ∃ n, w' = w.drewN n := by
  have hm : 0 < m ∧ m ≤ 65536 := by
    obtain ⟨j, hj, rfl⟩ := hp
    exact ⟨Nat.two_pow_pos j, Nat.pow_le_pow_right (by omega) hj⟩
  obtain ⟨hm0, hm1⟩ := hm
  have hsl := Tb.sumN_lt s.data.toList
  have hand := and_bkt m s hp
  have hbl := Tb.bkt_lt hm0 s
  clear hp
  go_enter Try.func18, Try.ntmps18
  go_wp2
  go_quiet ((go_at_call 8; exact Calls.quiet_of_same ((sum_any _ _ hs).mono fun _ _ h => ⟨h.1, h.2.symm⟩)))

  go_wp2
  go_ret
  exact ⟨rfl, _, rfl⟩

/-- What Find's walk reads of a table. -/
theorem TabAt.reads {w : World} {b hb m : Nat} {nv tv : Value} {hs nx : List Int} {ts : List ByteArray} (h : TabAt w b hb m nv tv hs nx ts) (s : ByteArray) :
    ∃ NA Nc TA Tc, nv = .slice NA ts.length Nc ∧ tv = .slice TA ts.length Tc ∧
      w.cell? ⟨b, 0, none⟩ = some (.slice (some ⟨hb, 0, none⟩) m m) ∧ w.cell? ⟨b, 1, none⟩ = some (.slice NA ts.length Nc) ∧ w.cell? ⟨b, 2, none⟩ = some (.slice TA ts.length Tc) ∧
      w.cell? ⟨hb, Tb.bkt m s, none⟩ = some (.int .i64 (Tb.lastB m ts (Tb.bkt m s) ts.length)) ∧
      (0 < ts.length → ∃ ng tg, NA = some ⟨ng, 0, none⟩ ∧ TA = some ⟨tg, 0, none⟩ ∧
        ∀ i (hi : i < ts.length), w.cell? ⟨ng, i, none⟩ = some (.int .i64 (Tb.lastB m ts (Tb.bkt m ts[i]) i)) ∧ w.cell? ⟨tg, i, none⟩ = some (.string ts[i])) := by
  obtain ⟨NA, Nc, rfl, _, _⟩ := own_slice h.nxo
  obtain ⟨TA, Tc, rfl, _, _⟩ := own_slice h.txo
  refine ⟨NA, Nc, TA, Tc, rfl, rfl, by rw [h.str.cell]; rfl, by rw [h.str.cell]; rfl, by rw [h.str.cell]; rfl, ?_, fun hn => ?_⟩
  · rw [h.heads.cell]
    have := h.chain.head _ (Tb.bkt_lt h.m_bd.1 s)
    simp only [List.getElem?_toArray, List.getElem?_map, this, Option.map_some]
  · obtain ⟨ng, nc', e1, _, _, _, c1⟩ := own_form h.nxo hn
    obtain ⟨tg, tc', e2, _, _, _, c2⟩ := own_form h.txo hn
    injection e1 with e1 _ _
    injection e2 with e2 _ _
    refine ⟨ng, tg, e1, e2, fun i hi => ⟨?_, ?_⟩⟩
    · rw [c1 i hi]
      have := h.chain.next i hi
      have hg : ts.getD i ByteArray.empty = ts[i] := by simp [List.getD, hi]
      rw [hg] at this
      simp only [List.getElem?_map, this, Option.map_some]
    · rw [c2 i hi]
      simp only [List.getElem?_map, List.getElem?_eq_getElem hi, Option.map_some]

set_option maxHeartbeats 400000 in
theorem find_no (w : World) (b hb m : Nat) (nv tv : Value) (hs nx : List Int) (ts : List ByteArray) (s : ByteArray) (hz : s.size ≤ maxLen) (h : TabAt w b hb m nv tv hs nx ts) (hno : s ∉ ts) :
    Calls Try.prog 16 #[.pointer (some ⟨b, 0, none⟩), .string s] w fun e w' => e = .returned (.tuple #[.int .i64 0, .bool false]) ∧ ∃ n, w' = w.drewN n := by
  obtain ⟨NA, Nc, TA, Tc, _, _, c0, c1, c2, ch, hcs⟩ := h.reads s
  obtain ⟨hm0, _⟩ := h.m_bd
  have hfew := h.few
  have hpow := Lib.hid h.pow
  have hno' := Lib.hid hno
  have hcs' := Lib.hid hcs
  have hmd : decide (0 < m) = true := by simpa using hm0
  clear hno hcs h
  go_enter Try.func16, Try.ntmps16
  go_wp2_with (first | (go_at_call 17; refine (made_any _ _ _ _ _ c0).mono ?_; rintro e w' ⟨rfl, rfl⟩) | (go_at_call 18; refine (head_any _ _ _ _ _ hz hpow.out c0).mono ?_; rintro e w' ⟨rfl, nq, rfl⟩))
  go_loop [6] (fun i => ∃ k : Nat, k ≤ ts.length ∧ i = .int .i64 (Tb.lastB m ts (Tb.bkt m s) k)) (fun i => (intOf i + 1).toNat)
  case atStart => exact ⟨_, Nat.le_refl _, rfl⟩
  case round =>
    obtain ⟨k, hk, rfl⟩ := hrel
    have hbd := Tb.lastB_bd m ts (Tb.bkt m s) k
    obtain ⟨x, hx⟩ : ∃ x, x = Tb.lastB m ts (Tb.bkt m s) k := ⟨_, rfl⟩
    rw [← hx] at hbd ⊢
    by_cases hlt : x < 0
    · clear hx
      go_wp2
      go_ret2
      exact ⟨rfl, _, rfl⟩
    · obtain ⟨i, rfl⟩ : ∃ i : Nat, x = (i : Int) := ⟨x.toNat, by omega⟩
      obtain ⟨hik, hib, _⟩ := Tb.lastB_some hx.symm
      obtain ⟨ng, tg, rfl, rfl, hcell⟩ := hcs'.out (by omega)
      have hil : i < ts.length := by omega
      obtain ⟨d1, d2⟩ := hcell i hil
      have hg : ts.getD i ByteArray.empty = ts[i] := by simp [List.getD, hil]
      rw [hg] at hib
      rw [hib] at d1
      have hib' := Lib.hid hib
      have hne := str_ne (show ts[i] ≠ s from fun e => hno'.out (e ▸ List.getElem_mem hil))
      obtain ⟨u, hu⟩ : ∃ u, u = ts[i] := ⟨_, rfl⟩
      rw [← hu] at d2 hne
      have hb2 := Tb.lastB_bd m ts (Tb.bkt m s) i
      clear hx hcell hib hg hu hib'
      go_wp2
      go_round
      case rel => exact ⟨i, by omega, rfl⟩
      case measure => simp [intOf]; omega

set_option maxHeartbeats 400000 in
theorem find_yes (w : World) (b hb m : Nat) (nv tv : Value) (hs nx : List Int) (ts : List ByteArray) (s : ByteArray) (i0 : Nat) (hz : s.size ≤ maxLen) (h : TabAt w b hb m nv tv hs nx ts) (hi0 : ts[i0]? = some s) :
    Calls Try.prog 16 #[.pointer (some ⟨b, 0, none⟩), .string s] w fun e w' => e = .returned (.tuple #[.int .i64 i0, .bool true]) ∧ ∃ n, w' = w.drewN n := by
  obtain ⟨NA, Nc, TA, Tc, _, _, c0, c1, c2, ch, hcs⟩ := h.reads s
  obtain ⟨hm0, _⟩ := h.m_bd
  have hfew := h.few
  have hpow := Lib.hid h.pow
  obtain ⟨hil0, hti0⟩ := List.getElem?_eq_some_iff.1 hi0
  have hcs' := Lib.hid hcs
  have hmd : decide (0 < m) = true := by simpa using hm0
  have huniq : Hid (∀ i (hi : i < ts.length), ts[i] = s → i = i0) := by
    intro i hi e
    exact (List.getElem_inj (h₀ := hi) (h₁ := hil0) h.distinct).1 (e.trans hti0.symm)
  have hbk0 : Hid (Tb.bkt m (ts.getD i0 ByteArray.empty) = Tb.bkt m s) := by
    have : ts.getD i0 ByteArray.empty = s := by simp [List.getD, hi0]
    rw [this]; exact rfl
  have hti : ∀ s' (hl : i0 < ts.length), s' = s → ts[i0] = s' := fun s' hl e => by rw [e]; exact hti0
  have hti := Lib.hid hti
  clear hi0 hcs h hti0
  go_enter Try.func16, Try.ntmps16
  go_wp2_with (first | (go_at_call 17; refine (made_any _ _ _ _ _ c0).mono ?_; rintro e w' ⟨rfl, rfl⟩) | (go_at_call 18; refine (head_any _ _ _ _ _ hz hpow.out c0).mono ?_; rintro e w' ⟨rfl, nq, rfl⟩))
  go_loop [6] (fun i => ∃ k : Nat, i0 < k ∧ k ≤ ts.length ∧ i = .int .i64 (Tb.lastB m ts (Tb.bkt m s) k)) (fun i => (intOf i + 1).toNat)
  case atStart => exact ⟨_, hil0, Nat.le_refl _, rfl⟩
  case round =>
    obtain ⟨k, hk0, hk, rfl⟩ := hrel
    have hbd := Tb.lastB_bd m ts (Tb.bkt m s) k
    obtain ⟨x, hx⟩ : ∃ x, x = Tb.lastB m ts (Tb.bkt m s) k := ⟨_, rfl⟩
    rw [← hx] at hbd ⊢
    by_cases hlt : x < 0
    · exact absurd hbk0.out (Tb.lastB_none (by rw [← hx]; exact hlt) i0 hk0)
    · obtain ⟨i, rfl⟩ : ∃ i : Nat, x = (i : Int) := ⟨x.toNat, by omega⟩
      obtain ⟨hik, hib, hlast⟩ := Tb.lastB_some hx.symm
      obtain ⟨ng, tg, rfl, rfl, hcell⟩ := hcs'.out (by omega)
      have hil : i < ts.length := by omega
      obtain ⟨d1, d2⟩ := hcell i hil
      have hle : i0 ≤ i := by
        rcases Nat.lt_or_ge i i0 with h1 | h1
        · exact absurd hbk0.out (hlast i0 h1 hk0)
        · exact h1
      by_cases hi : i = i0
      · subst hi
        have he := str_same s
        have hts : ts[i] = s := by
          exact hti.out s hil rfl
        rw [hts] at d2
        clear hx hcell hib hlast d1 hts
        go_wp2
        go_ret2
        exact ⟨rfl, _, rfl⟩
      · have hg : ts.getD i ByteArray.empty = ts[i] := by simp [List.getD, hil]
        rw [hg] at hib
        rw [hib] at d1
        have hne := str_ne (show ts[i] ≠ s from fun e => hi (huniq.out i hil e))
        obtain ⟨u, hu⟩ : ∃ u, u = ts[i] := ⟨_, rfl⟩
        rw [← hu] at d2 hne
        have hb2 := Tb.lastB_bd m ts (Tb.bkt m s) i
        clear hx hcell hib hg hu hlast
        go_wp2
        go_round
        case rel => exact ⟨i, by omega, by omega, rfl⟩
        case measure => simp [intOf]; omega
end Go.Proofs.Ytjdchelgpniliaa
