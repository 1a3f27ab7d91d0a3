/- However many bits two tables have, the numbers of texts are the same: TableBits returns true for every input: no condition. -/
import Derived.Test.YtjdchelgpniliaaTbl
import Derived.Test.YtjdchelgpniliaaSeen
namespace Go.Proofs.Ytjdchelgpniliaa
open Go.ChangeShapes Go.WideShapes Go.ChangeAt Go.RowKit
open Go.ChangeMaps (open_string)

/-- Two tables of the same texts, apart, above block B. -/
def Two (B : Nat) (w0 w : World) (b1 b2 : Nat) (ts : List ByteArray) : Prop :=
  ∃ F1 F2 : Nat → Prop, Tbl w F1 b1 ts ∧ Tbl w F2 b2 ts ∧ (∀ k, F1 k → F2 k → False) ∧ (∀ k, F1 k → B ≤ k ∧ k < w.heap.size) ∧ (∀ k, F2 k → B ≤ k ∧ k < w.heap.size) ∧ Chg (fun k => B ≤ k) w0 w

theorem two_put1 {B : Nat} {w0 w : World} {b1 b2 : Nat} {ts : List ByteArray} {s : ByteArray} (h : Two B w0 w b1 b2 ts) (hB : B ≤ w0.heap.size) (hz : s.size ≤ maxLen) (hno : s ∉ ts) (hmore : ts.length < 1000000) :
    Calls Try.prog 12 #[.pointer (some ⟨b1, 0, none⟩), .string s] w fun e w' => e = .returned (.tuple #[.int .i64 ts.length, .bool true]) ∧
      ∃ F1 F2 : Nat → Prop, Tbl w' F1 b1 (ts ++ [s]) ∧ Tbl w' F2 b2 ts ∧ (∀ k, F1 k → F2 k → False) ∧ (∀ k, F1 k → B ≤ k ∧ k < w'.heap.size) ∧ (∀ k, F2 k → B ≤ k ∧ k < w'.heap.size) ∧ Chg (fun k => B ≤ k) w0 w' := by
  obtain ⟨F1, F2, h1, h2, hd, l1, l2, hc⟩ := h
  refine (put_tbl_new w F1 b1 ts s hz h1 hno hmore).mono fun e w' ⟨he, hT, hC⟩ => ⟨he, Wider F1 w w', F2, hT, h2.chg hC (fun k hk hk' => hd k hk' hk), ?_, ?_, ?_, ?_⟩
  · rintro k (hk | hk) hk2
    · exact hd k hk hk2
    · have := l2 k hk2; omega
  · have hsz := hC.size
    have hsz0 := hc.size
    rintro k (hk | hk)
    · have := l1 k hk; omega
    · omega
  · have hsz := hC.size
    intro k hk
    have := l2 k hk; omega
  · exact Chg.trans hc hC (fun i _ hi => (l1 i hi).1)
theorem two_put2 {B : Nat} {w0 w : World} {b1 b2 : Nat} {ts : List ByteArray} {s : ByteArray} (h : ∃ F1 F2 : Nat → Prop, Tbl w F1 b1 (ts ++ [s]) ∧ Tbl w F2 b2 ts ∧ (∀ k, F1 k → F2 k → False) ∧ (∀ k, F1 k → B ≤ k ∧ k < w.heap.size) ∧ (∀ k, F2 k → B ≤ k ∧ k < w.heap.size) ∧ Chg (fun k => B ≤ k) w0 w) (hB : B ≤ w0.heap.size) (hz : s.size ≤ maxLen) (hno : s ∉ ts) (hmore : ts.length < 1000000) :
    Calls Try.prog 12 #[.pointer (some ⟨b2, 0, none⟩), .string s] w fun e w' => e = .returned (.tuple #[.int .i64 ts.length, .bool true]) ∧ Two B w0 w' b1 b2 (ts ++ [s]) := by
  obtain ⟨F1, F2, h1, h2, hd, l1, l2, hc⟩ := h
  refine (put_tbl_new w F2 b2 ts s hz h2 hno hmore).mono fun e w' ⟨he, hT, hC⟩ => ⟨he, F1, Wider F2 w w', h1.chg hC (fun k hk hk' => hd k hk hk'), hT, ?_, ?_, ?_, ?_⟩
  · rintro k hk (hk2 | hk2)
    · exact hd k hk hk2
    · have := l1 k hk; omega
  · have hsz := hC.size
    intro k hk
    have := l1 k hk; omega
  · have hsz := hC.size
    have hsz0 := hc.size
    rintro k (hk | hk)
    · have := l2 k hk; omega
    · omega
  · exact Chg.trans hc hC (fun i _ hi => (l2 i hi).1)
theorem two_drewN {B : Nat} {w0 w : World} {b1 b2 : Nat} {ts : List ByteArray} (h : Two B w0 w b1 b2 ts) (n : Nat) : Two B w0 (w.drewN n) b1 b2 ts := by
  obtain ⟨F1, F2, h1, h2, hd, l1, l2, hc⟩ := h
  exact ⟨F1, F2, h1.drewN n, h2.drewN n, hd, l1, l2, hc.drewN n⟩

set_option maxHeartbeats 1000000 in
theorem law_bits (w : World) (A : Option Addr) (c : Nat) (ts : List ByteArray) (x y : Int) (hl : ts.length ≤ maxLen) (hr : Rd w w.heap.size A (ts.map Value.string)) (hz : ∀ t ∈ ts, t.size ≤ maxLen) :
    Calls Try.prog 4 #[.slice A ts.length c, .int .i64 x, .int .i64 y] w fun e w' => e = .returned (.bool true) ∧ Below w.heap.size w w' := by
  have HR := Lib.hid hr
  have HZ := Lib.hid hz
  have HL := Lib.hid hl
  unfold maxLen at hl
  clear hr hz
  go_enter Try.func4, Try.ntmps4
  go_wp2_with fail
  refine (much_any w w.heap.size A ts.length c ts rfl HL.out HR.out).mono ?_
  rintro e w' ⟨⟨bb, rfl, hm⟩, rfl⟩
  cases bb with
  | true =>
    clear hm
    go_wp2_with (go_at_call 7; refine (awake_any _).mono ?_; rintro e w' ⟨rfl, hC⟩)
    go_ret
    exact ⟨rfl, hC.below (Nat.le_refl _) (fun k hk => hk.elim)⟩
  | false =>
    have hm := hm rfl
    go_wp2_with fail
    refine (new_any _ _).mono ?_
    rintro e w1 ⟨rfl, hN1⟩
    obtain ⟨t1, c1⟩ := tbl_new hN1
    have s1 : w.heap.size + 1 < w1.heap.size := by obtain ⟨_, _, _, h⟩ := hN1; exact h
    clear hN1
    have T1 := Lib.hid t1; have C1 := Lib.hid c1
    clear t1 c1
    go_wp2_with fail
    refine (new_any _ _).mono ?_
    rintro e w2 ⟨rfl, hN2⟩
    obtain ⟨t2, c2⟩ := tbl_new hN2
    have hT : Hid (Two w.heap.size w w2 (w.heap.size + 1) (w1.heap.size + 1) []) := by
      have sz2 := c2.size
      refine ⟨_, _, T1.out.chg c2 (fun _ _ h => h), t2, ?_, ?_, ?_, ?_⟩
      · rintro k h1 h2; omega
      · rintro k h1; omega
      · rintro k h1; omega
      · exact Chg.trans (C1.out.mono (fun _ _ h => h.elim)) c2 (fun _ _ h => h.elim)
    clear hN2 t2 c2 T1 C1
    obtain ⟨b1, hb1⟩ : ∃ b1, b1 = w.heap.size + 1 := ⟨_, rfl⟩
    obtain ⟨b2, hb2⟩ : ∃ b2, b2 = w1.heap.size + 1 := ⟨_, rfl⟩
    rw [← hb1, ← hb2] at hT ⊢
    clear hb1 hb2 s1
    go_wp2_with fail
    go_loopw [9] (fun i wr => ∃ k : Nat, k ≤ ts.length ∧ i = .int .i64 k ∧ Hid (Two w.heap.size w wr b1 b2 (Tb.seen (ts.take k)))) (fun i _ => ts.length - (intOf i).toNat)
    case atStart => exact ⟨0, Nat.zero_le _, rfl, hT⟩
    case round =>
      obtain ⟨k, hk, rfl, hI⟩ := hrel
      clear hT
      have hlen : (Tb.seen (ts.take k)).length ≤ 200 := by
        have h1 := Tb.seen_len (ts.take k)
        have h2 : (ts.take k).length ≤ k := List.length_take_le _ _
        omega
      by_cases hlt : k < ts.length
      · have hrd : Rd wr w.heap.size A (ts.map Value.string) := by
          obtain ⟨_, _, _, _, _, _, _, hc⟩ := hI.out
          exact HR.out.chg hc (Nat.le_refl _) (fun _ h => h)
        obtain ⟨ad, hA, hadlt, hc⟩ := hrd.at (k := k) (by simpa using hlt)
        subst hA
        rw [List.getElem_map] at hc
        have hzk := Lib.hid (HZ.out _ (List.getElem_mem hlt))
        have hst := Lib.hid (Tb.seen_take hlt)
        obtain ⟨s, hs⟩ : ∃ s, s = ts[k] := ⟨_, rfl⟩
        obtain ⟨acc, hacc⟩ : ∃ acc, acc = Tb.seen (ts.take k) := ⟨_, rfl⟩
        rw [← hs] at hzk hst hc
        rw [← hacc] at hI hst hlen
        clear hs hacc hrd
        by_cases hin : 0 ≤ Tb.idx acc s
        · obtain ⟨i, _, hi⟩ := Tb.idx_mem hin
          rw [Tb.addT_old hin] at hst
          have hi := Lib.hid hi
          clear hin
          go_wp2_with fail
          obtain ⟨F1, F2, h1, h2, _⟩ := hI.out
          refine (put_tbl_old _ F1 b1 acc s i hzk.out h1 hi.out).mono ?_
          rintro e w3 ⟨rfl, n1, rfl⟩
          have h2' := Lib.hid (h2.drewN n1)
          clear h1 h2
          go_wp2_with fail
          refine (put_tbl_old _ F2 b2 acc s i hzk.out h2'.out hi.out).mono ?_
          rintro e w3 ⟨rfl, n2, rfl⟩
          have hI2 := Lib.hid (two_drewN (two_drewN hI.out n1) n2)
          clear h2' hI
          go_wp2
          go_roundw
          case rel =>
            refine ⟨k + 1, by omega, by go_num, ?_⟩
            rw [hst.out]
            simpa using hI2
          case measure => simp [intOf]; omega
        · obtain ⟨hno, _⟩ := Tb.idx_not (show Tb.idx acc s < 0 by omega)
          rw [Tb.addT_new (show Tb.idx acc s < 0 by omega)] at hst
          have hno := Lib.hid hno
          clear hin
          go_wp2_with fail
          refine (two_put1 hI.out (Nat.le_refl _) hzk.out hno.out (by omega)).mono ?_
          rintro e w3 ⟨rfl, hI3⟩
          have hc3 : w3.cell? (ad.add k) = some (.string s) := by
            obtain ⟨_, _, _, _, _, _, _, hcc⟩ := hI.out
            obtain ⟨_, _, _, _, _, _, _, hcc3⟩ := hI3
            have e1 := hcc.cell (p := ad.add k) (by rw [block_of_add]; exact hadlt) (by rw [block_of_add]; omega)
            have e2 := hcc3.cell (p := ad.add k) (by rw [block_of_add]; exact hadlt) (by rw [block_of_add]; omega)
            rw [e2, ← e1]; exact hc
          have HI3 := Lib.hid hI3
          clear hI3 hI hc
          go_wp2_with fail
          refine (two_put2 HI3.out (Nat.le_refl _) hzk.out hno.out (by omega)).mono ?_
          rintro e w4 ⟨rfl, hI4⟩
          have HI4 := Lib.hid hI4
          clear hI4 HI3 hc3
          go_wp2
          go_roundw
          case rel =>
            refine ⟨k + 1, by omega, by go_num, ?_⟩
            rw [hst.out]
            exact HI4
          case measure => simp [intOf]; omega
      · obtain ⟨F1, F2, h1, h2, _, _, _, hcc⟩ := hI.out
        obtain ⟨A1, k1, l1⟩ := h1.len
        obtain ⟨A2, k2, l2⟩ := h2.len
        have HC := Lib.hid hcc
        obtain ⟨acc, hacc⟩ : ∃ acc, acc = Tb.seen (ts.take k) := ⟨_, rfl⟩
        rw [← hacc] at l1 l2
        clear h1 h2 hcc hacc hI
        go_wp2_with fail
        refine (len_any _ _ _ _ _ l1).mono ?_
        rintro e w3 ⟨rfl, rfl⟩
        go_wp2_with fail
        refine (len_any _ _ _ _ _ l2).mono ?_
        rintro e w3 ⟨rfl, rfl⟩
        go_wp2_with (go_at_call 7; refine (awake_any _).mono ?_; rintro e w' ⟨rfl, hC⟩)
        go_ret
        exact ⟨rfl, (Chg.trans HC.out hC (fun _ _ h => h.elim)).below (Nat.le_refl _) (fun _ h => h)⟩

set_option maxRecDepth 100000 in
theorem tableBits_lifted (os : Os) (started : os.Started) (H : Type) (enc : TypeId × Value → H) :
    ReturnsInHanded {} Try.checked os 4 .any (Rows.tableBitsSpec.pre6 enc Try.prog Try.f4 Rows.tableBitsRow.domain false) (Rows.tableBitsSpec.post enc Try.prog Try.f4 false true false false) := by
  refine law_lifted started enc 4 Try.f4 Rows.tableBitsSpec [27, 3, 3] (by kernel_rfl) Try.func4 (by kernel_rfl) rfl (by kernel_rfl) (fun i => by rw [Try.params4]; simp) ?_ ?_
    (ChangeSpec.witness6 (enc := enc) (C := Try.checked) false ⟨#[], #[.slice none 0 0, .int .i64 0, .int .i64 0], []⟩ 8 (by kernel_rfl) (by kernel_rfl) (by kernel_rfl) (by kernel_rfl)) ?_
  · intro ds h
    match ds, h with
    | [d0, d1, d2], _ => rfl
  · intro t ht
    simp only [List.mem_cons, List.not_mem_nil, or_false] at ht
    rcases ht with rfl | rfl | rfl
    · exact ⟨by kernel_rfl, of_decide_eq_true (by kernel_rfl)⟩
    · exact ⟨by kernel_rfl, of_decide_eq_true (by kernel_rfl)⟩
    · exact ⟨by kernel_rfl, of_decide_eq_true (by kernel_rfl)⟩
  · rintro W base args ds p ⟨hval, hA, hsz⟩
    obtain ⟨v0, vs0, d0, ds0, p0, q0, hargs, rfl, rfl, h0, r0⟩ := trodAll_cons hA
    obtain ⟨v1, vs1, d1, ds1, p1, q1, rfl, rfl, rfl, h1, r1⟩ := trodAll_cons r0
    obtain ⟨v2, vs2, d2, ds2, p2, q2, rfl, rfl, rfl, h2, r2⟩ := trodAll_cons r1
    obtain ⟨rfl, rfl, rfl⟩ := trodAll_nil r2
    obtain rfl : args = #[v0, v1, v2] := by cases args; simp_all
    obtain ⟨A, n, c, rfl⟩ := okWide_slice Try.underlying27 (hval 0 27 v0 rfl rfl)
    obtain ⟨ts, rfl, hl, hr, hz⟩ := strs_in h0
    obtain ⟨x, rfl, rfl, rfl, wx⟩ := open_int Try.underlying3 (hval 1 3 v1 rfl rfl) h1
    obtain ⟨y, rfl, rfl, rfl, wy⟩ := open_int Try.underlying3 (hval 2 3 v2 rfl rfl) h2
    exact law_bits W A c ts x y hl hr hz

theorem tableBits_holds : Rows.TableBitsSaid :=
  OpenClaim.holds_of_wide 4 Try.f4 rfl rfl rfl rfl rfl rfl rfl ⟨rfl, rfl, rfl, rfl, rfl⟩ rfl rfl rfl rfl rfl (by kernel_rfl) Try.func4 (by kernel_rfl)
    (of_decide_eq_true (by kernel_rfl)) (by unfold Func.isWrapper; rw [if_neg (of_decide_eq_false (by kernel_rfl))]; exact ⟨rfl, rfl⟩)
    (fun os started H enc _ => tableBits_lifted os started H enc)
#print axioms tableBits_holds
end Go.Proofs.Ytjdchelgpniliaa
