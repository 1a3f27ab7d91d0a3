/- The laws of layer 9: the plain part, and the walks. -/
import Derived.Test.YtpppgnphblbbcaaNmAwake
import Derived.Test.YtpppgnphblbbcaaNmArgs
import Derived.Test.YtpppgnphblbbcaaNmRead
namespace Nm
theorem split_at {l : List Stm} {i : Nat} {x : Stm} (hx : l[i]? = some x) : l = l.take i ++ [x] ++ l.drop (i + 1) := by
  obtain ⟨hi, rfl⟩ := List.getElem?_eq_some_iff.1 hx
  rw [← List.take_succ_eq_append_getElem hi]
  exact (List.take_append_drop (i + 1) l).symm
theorem namesOf_app (a b : List Stm) (k : Int) : namesOf (a ++ b) k = namesOf a k ++ namesOf b k := by unfold namesOf; rw [List.filter_append, List.map_append]
theorem namesOf_at (l : List Stm) (i : Nat) (x : Stm) (hx : l[i]? = some x) (hn : isNamed x.kind = true) : (namesOf l x.kind)[ahead (l.take i) x.kind]? = some x.name := by
  have e : namesOf l x.kind = namesOf (l.take i) x.kind ++ [x.name] ++ namesOf (l.drop (i + 1)) x.kind := by
    have h := congrArg (fun l => namesOf l x.kind) (split_at hx)
    rw [namesOf_app, namesOf_snoc, if_pos ⟨rfl, hn⟩] at h
    exact h
  rw [e, ← namesOf_len hn, List.append_assoc, List.getElem?_append_right (Nat.le_refl _)]
  simp
theorem namesOf_from : ∀ (l : List Stm) (k : Int) (n : Nat) (s : ByteArray), (namesOf l k)[n]? = some s → ∃ i x, l[i]? = some x ∧ x.kind = k ∧ isNamed k = true ∧ x.name = s ∧ ahead (l.take i) k = n := by
  intro l k n s h
  cases hn : isNamed k with
  | false => rw [namesOf_none hn] at h; simp at h
  | true =>
    have gen : ∀ (p q : List Stm), (namesOf (p ++ q) k)[n]? = some s → (∀ m : Nat, (namesOf p k)[m]? = none ∨ m ≠ n) → ∃ i x, (p ++ q)[i]? = some x ∧ x.kind = k ∧ x.name = s ∧ ahead ((p ++ q).take i) k = n := by
      intro p q
      induction q generalizing p with
      | nil =>
        intro h0 h1
        rw [List.append_nil] at h0
        rcases h1 n with h | h
        · rw [h] at h0; cases h0
        · exact absurd rfl h
      | cons x q ih =>
        intro h0 h1
        have e : p ++ x :: q = (p ++ [x]) ++ q := by simp
        by_cases hc : x.kind = k ∧ (namesOf p k).length = n
        · refine ⟨p.length, x, by simp, hc.1, ?_, ?_⟩
          · have e2 : namesOf (p ++ x :: q) k = namesOf p k ++ [x.name] ++ namesOf q k := by
              rw [e, namesOf_app, namesOf_snoc, if_pos ⟨hc.1, hn⟩]
            rw [e2, List.append_assoc, List.getElem?_append_right (by omega), hc.2] at h0
            simpa using h0
          · rw [List.take_left, ← namesOf_len hn]; exact hc.2
        · rw [e] at h0 ⊢
          refine ih (p ++ [x]) h0 fun m => ?_
          rcases h1 m with h5 | h5
          · by_cases hm : m = n
            · left
              subst hm
              rw [namesOf_snoc]
              rw [List.getElem?_eq_none_iff] at h5 ⊢
              split
              · rename_i hk
                have : (namesOf p k).length ≠ m := fun e => hc ⟨hk.1, e⟩
                rw [List.length_append, List.length_singleton]; omega
              · rw [List.append_nil]; exact h5
            · exact .inr hm
          · exact .inr h5
    obtain ⟨i, x, h1, h2, h3, h4⟩ := gen [] l (by simpa using h) (fun m => .inl (by simp [namesOf]))
    exact ⟨i, x, by simpa using h1, h2, rfl, h3, by simpa using h4⟩
theorem fine_find {l : List Stm} (h : Fine l) {i : Nat} {x : Stm} (hx : l[i]? = some x) (hn : isNamed x.kind = true) : findI l x.name = (i : Int) :=
  findI_hit' hx (hit_true.2 ⟨hn, rfl⟩) fun j y hj hy => by
    cases hh : hit x.name y with
    | false => rfl
    | true =>
      obtain ⟨h1, h2⟩ := hit_true.1 hh
      have := fine_one h hy hx h1 hn h2
      omega
theorem fine_known {l : List Stm} (h : Fine l) {i : Nat} {x : Stm} (hx : l[i]? = some x) : known x.kind = true := by
  obtain ⟨hi, rfl⟩ := List.getElem?_eq_some_iff.1 hx
  exact (bad_zero (h i hi)).1
theorem fine_unknown {l : List Stm} (h : Fine l) {k : Int} (hk : known k = false) : ahead l k = 0 := by
  unfold ahead
  rw [List.countP_eq_zero]
  intro x hx he
  obtain ⟨i, hi, rfl⟩ := List.getElem_of_mem hx
  have := fine_known h (List.getElem?_eq_getElem hi)
  rw [of_decide_eq_true he, hk] at this
  cases this
theorem ahead_lt {l : List Stm} {i : Nat} {x : Stm} (hx : l[i]? = some x) : ahead (l.take i) x.kind < ahead l x.kind := by
  have h := congrArg (fun l => ahead l x.kind) (split_at hx)
  rw [show ∀ a b, ahead (a ++ b) x.kind = ahead a x.kind + ahead b x.kind from fun a b => by unfold ahead; rw [List.countP_append], ahead_snoc, if_pos rfl] at h
  omega
end Nm
namespace Go.Proofs.Ytpppgnphblbbcaa
open Go.RowKit

set_option maxRecDepth 100000 in
set_option maxHeartbeats 4000000 in
theorem law_few (W : World) (A : Option Addr) (c : Nat) (l : List StmC) (k n : Int) (hr : Rd W W.heap.size A (cellsOf l)) (hz : ∀ x ∈ l, x.s.name.size ≤ maxLen) :
    Calls Try.prog 4 #[.slice A l.length c, .int .i64 k, .int .i64 n] W fun e W' => e = .returned (.bool true) ∧ Below W.heap.size W W' := by
  have HR := Lib.hid hr
  have HZ := Lib.hid hz
  clear hr hz
  by_cases h80 : 80 < l.length
  · go_enter Try.func4, Try.ntmps4
    go_wp2_with (go_at_call 16; refine (awake_any _).mono ?_; rintro e w' ⟨rfl, hC⟩)
    go_ret
    exact ⟨rfl, hC.below (Nat.le_refl _) (fun _ h => h.elim)⟩
  go_enter Try.func4, Try.ntmps4
  go_wp2_with fail
  refine (build_any W A l.length c l rfl (by omega) HR.out HZ.out).mono ?_
  rintro e w1 ⟨v, rfl, hB, hC⟩
  have HC := Lib.hid hC
  have HB := Lib.hid hB
  clear hC hB
  obtain ⟨f0, f1, f2, hf⟩ : ∃ f0 f1 f2, (f0, f1, f2) = Nm.check (stms l) := ⟨_, _, _, rfl⟩
  rw [← hf]
  simp only [faultV]
  have hX2 := Blk.new w1 29 #[.int .i64 f0, .int .i64 f1, .int .i64 f2]
  have hC2 := HC.out.alloc (.cells #[.int .i64 f0, .int .i64 f1, .int .i64 f2] 29)
  have hC3 := (Chg.refl (fun _ => False) w1).alloc (.cells #[.int .i64 f0, .int .i64 f1, .int .i64 f2] 29)
  have emp : ((⟨#[]⟩ : ByteArray).toList == (⟨#[]⟩ : ByteArray).toList) = true := str_same _
  have hd : Hid (n < 0 → decide (n < 0) = true) := fun h => by simpa using h
  rcases HB.out with ⟨rfl, hne⟩ | ⟨he, b, mb, nv, rfl, hT, hF⟩
  · go_wp2_with fail
    obtain ⟨w2, hw2⟩ : ∃ w2, w2 = w1.alloc (.cells #[.int .i64 f0, .int .i64 f1, .int .i64 f2] 29) := ⟨_, rfl⟩
    rw [← hw2] at hX2 hC2 hC3 ⊢
    have HC2 := Lib.hid hC2
    clear hw2 hX2 hC2 hC3 HC HB
    refine (name_nil _ k n).mono ?_
    rintro e w3 ⟨rfl, rfl⟩
    by_cases hn : n < 0
    · have hd := hd.out hn
      go_wp2_with (go_at_call 16; refine (awake_any _).mono ?_; rintro e w' ⟨rfl, hC⟩)
      go_ret
      exact ⟨rfl, (Chg.trans HC2.out hC (fun _ _ h => h)).below (Nat.le_refl _) (fun _ h => h.elim)⟩
    · have hd : decide (n < 0) = false := by simpa using hn
      have hd2 : decide ((0 : Int) ≤ n) = true := by simpa using hn
      go_wp2_with (first | (go_at_call 16; refine (awake_any _).mono ?_; rintro e w' ⟨rfl, hC⟩) | (go_at_call 19; refine (count_nil _ _).mono ?_; rintro e w' ⟨rfl, rfl⟩))
      go_ret
      exact ⟨rfl, (Chg.trans HC2.out hC (fun _ _ h => h)).below (Nat.le_refl _) (fun _ h => h.elim)⟩
  · go_wp2_with fail
    obtain ⟨w2, hw2⟩ : ∃ w2, w2 = w1.alloc (.cells #[.int .i64 f0, .int .i64 f1, .int .i64 f2] 29) := ⟨_, rfl⟩
    rw [← hw2] at hX2 hC2 hC3 ⊢
    have HC2 := Lib.hid hC2
    have HT := Lib.hid (hT.quiet hC3)
    clear hw2 hX2 hC2 hC3 HC HB hF hT
    by_cases hin : Nm.known k = true ∧ 0 ≤ n ∧ n < ((Nm.namesOf (stms l) k).length : Int)
    · obtain ⟨hk, h0, hn⟩ := hin
      obtain ⟨i, rfl⟩ : ∃ i : Nat, n = (i : Int) := ⟨n.toNat, by omega⟩
      have hi : i < (Nm.namesOf (stms l) k).length := by omega
      obtain ⟨s, hs⟩ : ∃ s, (Nm.namesOf (stms l) k)[i]? = some s := ⟨_, List.getElem?_eq_getElem hi⟩
      obtain ⟨j, x, hx, rfl, hnm, rfl, rfl⟩ := Nm.namesOf_from _ _ _ _ hs
      have hlt := Nm.ahead_lt hx
      have hcnt : Hid (cntOf (stms l) x.kind = (Nm.ahead (stms l) x.kind : Int)) := by show cntOf (stms l) x.kind = _; unfold cntOf; rw [hk]; rfl
      have hf2 := Lib.hid (Nm.fine_find HT.out.fine hx hnm)
      have hxz : Hid (x.name.size ≤ maxLen) := HT.out.sizes x (List.mem_of_getElem? hx)
      have HX := Lib.hid hx
      have HS := Lib.hid hs
      have HK := Lib.hid hk
      have g6 : decide (x.kind = 6) = false := by unfold Nm.isNamed at hnm; simp at hnm ⊢; exact hnm.1
      have g8 : decide (x.kind = 8) = false := by unfold Nm.isNamed at hnm; simp at hnm ⊢; exact hnm.2
      have g6' : (x.kind == 6) = false := by simpa using g6
      have g8' : (x.kind == 8) = false := by simpa using g8
      obtain ⟨m, hm⟩ : ∃ m, m = Nm.ahead ((stms l).take j) x.kind := ⟨_, rfl⟩
      obtain ⟨q, hq⟩ : ∃ q, q = Nm.ahead (stms l) x.kind := ⟨_, rfl⟩
      have hmq : m < q := by rw [hm, hq]; exact hlt
      have HM := Lib.hid hm
      have HQ := Lib.hid hq
      rw [← hm]
      have hd : decide ((m : Int) < 0) = false := by simp
      have hd2 : decide ((q : Int) ≤ (m : Int)) = false := by simp; omega
      clear hs hx hi hlt hn h0 hnm hm hq hk g6 g8
      refine (name_in w2 b mb nv (stms l) x.kind m x.name HT.out HK.out (by rw [HM.out]; exact HS.out)).mono ?_
      rintro e w3 ⟨rfl, rfl⟩
      go_wp2_with fail
      refine (count_any w2 b mb nv (stms l) x.kind HT.out).mono ?_
      rintro e w3 ⟨rfl, rfl⟩
      rw [hcnt.out, ← HQ.out]
      go_wp2_with fail
      refine (find_yes w2 b mb nv (stms l) x.name hxz.out HT.out hf2.out HX.out).mono ?_
      rintro e w3 ⟨rfl, hC⟩
      have HC3 := Lib.hid (Chg.trans HC2.out hC (fun _ _ h => h))
      clear hC
      rw [← HM.out]
      go_wp2_with (go_at_call 16; refine (awake_any _).mono ?_; rintro e w' ⟨rfl, hC⟩)
      go_ret
      exact ⟨rfl, (Chg.trans HC3.out hC (fun _ _ h => h)).below (Nat.le_refl _) (fun _ h => h.elim)⟩
    · have hname : Calls Try.prog 20 #[.pointer (some ⟨b, 0, none⟩), .int .i64 k, .int .i64 n] w2 fun e w' => e = .returned (.string ⟨#[]⟩) ∧ w2 = w' := by
        cases hk : Nm.known k with
        | false => exact name_unknown w2 b k n hk
        | true => exact name_out w2 b mb nv (stms l) k n HT.out hk (by
            rcases Int.lt_or_le n 0 with h | h
            · exact .inl h
            · rcases Int.lt_or_le n ((Nm.namesOf (stms l) k).length : Int) with h2 | h2
              · exact absurd ⟨hk, h, h2⟩ hin
              · exact .inr h2)
      have hcnt : Hid (∃ q : Nat, cntOf (stms l) k = (q : Int) ∧ (n < 0 ∨ (q : Int) ≤ n ∨ k = 6 ∨ k = 8)) := by
        show ∃ q : Nat, cntOf (stms l) k = (q : Int) ∧ (n < 0 ∨ (q : Int) ≤ n ∨ k = 6 ∨ k = 8)
        cases hk : Nm.known k with
        | false => exact ⟨0, by unfold cntOf; rw [hk]; rfl, by omega⟩
        | true =>
          refine ⟨Nm.ahead (stms l) k, by unfold cntOf; rw [hk]; rfl, ?_⟩
          cases hnm : Nm.isNamed k with
          | false => unfold Nm.isNamed at hnm; simp at hnm; omega
          | true =>
            rw [Nm.namesOf_len hnm] at hin
            rcases Int.lt_or_le n 0 with h | h
            · exact .inl h
            · rcases Int.lt_or_le n (Nm.ahead (stms l) k : Int) with h2 | h2
              · exact absurd ⟨hk, h, h2⟩ hin
              · exact .inr (.inl h2)
      obtain ⟨q, hq, hor⟩ := hcnt.out
      have HQ := Lib.hid hq
      clear hcnt hin hq
      refine hname.mono ?_
      rintro e w3 ⟨rfl, rfl⟩
      clear hname
      by_cases hn : n < 0
      · have hd := hd.out hn
        go_wp2_with (go_at_call 16; refine (awake_any _).mono ?_; rintro e w' ⟨rfl, hC⟩)
        go_ret
        exact ⟨rfl, (Chg.trans HC2.out hC (fun _ _ h => h)).below (Nat.le_refl _) (fun _ h => h.elim)⟩
      have hd : decide (n < 0) = false := by simpa using hn
      have hcq : Hid (cntOf (stms l) k = (q : Int)) := HQ
      by_cases hqn : (q : Int) ≤ n
      · have hd2 : decide ((q : Int) ≤ n) = true := by simpa using hqn
        go_wp2_with (first | (go_at_call 16; refine (awake_any _).mono ?_; rintro e w' ⟨rfl, hC⟩) | (go_at_call 19; refine (count_any w2 b mb nv (stms l) k HT.out).mono ?_; rintro e w' ⟨rfl, rfl⟩; rw [HQ.out]))
        go_ret
        exact ⟨rfl, (Chg.trans HC2.out hC (fun _ _ h => h)).below (Nat.le_refl _) (fun _ h => h.elim)⟩
      have hd2 : decide ((q : Int) ≤ n) = false := by simpa using hqn
      rcases (by omega : k = 6 ∨ k = 8) with rfl | rfl
      · go_wp2_with (first | (go_at_call 16; refine (awake_any _).mono ?_; rintro e w' ⟨rfl, hC⟩) | (go_at_call 19; refine (count_any w2 b mb nv (stms l) 6 HT.out).mono ?_; rintro e w' ⟨rfl, rfl⟩; rw [HQ.out]))
        go_ret
        exact ⟨rfl, (Chg.trans HC2.out hC (fun _ _ h => h)).below (Nat.le_refl _) (fun _ h => h.elim)⟩
      · go_wp2_with (first | (go_at_call 16; refine (awake_any _).mono ?_; rintro e w' ⟨rfl, hC⟩) | (go_at_call 19; refine (count_any w2 b mb nv (stms l) 8 HT.out).mono ?_; rintro e w' ⟨rfl, rfl⟩; rw [HQ.out]))
        go_ret
        exact ⟨rfl, (Chg.trans HC2.out hC (fun _ _ h => h)).below (Nat.le_refl _) (fun _ h => h.elim)⟩
end Go.Proofs.Ytpppgnphblbbcaa
