/- The law of layer 4's Put: its walk. -/
import Derived.Test.YtpppgnphblbbcaaTrPut
namespace Go.Proofs.Ytpppgnphblbbcaa
open Go.RowKit

/-- The kids of what is put: where each ends. -/
theorem put_kids {op : Int} {ks : List KidC} (h : Tr.arity op = ks.length) (hk : ∀ k ∈ ks, Tr.check (sg k.f) k.f.length = 0) (j : Nat) (hj : j < ks.length) :
    (Tr.kidsB (sg (allK ks ++ [itm op])) (allK ks).length)[j]? = some (((allK (ks.take (j + 1))).length : Int) - 1) := by
  unfold Tr.kidsB
  rw [sg_last]
  match ks, h, hk, hj with
  | [], h, _, hj => simp at hj
  | [a], h, hk, hj =>
    simp only [List.length_cons, List.length_nil] at h hj
    obtain rfl : j = 0 := by omega
    rw [if_neg (by omega), if_pos (by omega)]
    rfl
  | [a, b], h, hk, hj =>
    simp only [List.length_cons, List.length_nil] at h hj
    have hb := (Tr.check_zero.1 (hk b (by simp))).2.2
    have e : allK [a, b] = a.f ++ b.f := by simp [allK]
    have e1 : allK [a] = a.f := by simp [allK]
    have hbeg : Tr.beg (sg (allK [a, b] ++ [itm op])) 1 (allK [a, b]).length = a.f.length := by
      rw [e, List.length_append]
      rw [Tr.beg_within (f := sg b.f) a.f.length b.f.length 1 _ (by omega) (by omega) hb (fun i hi => by
        rw [sg_left (by rw [List.length_append]; omega)]
        exact sg_right), if_pos rfl]
    rw [if_neg (by omega), if_neg (by omega), hbeg]
    rcases (by omega : j = 0 ∨ j = 1) with rfl | rfl
    · show some _ = some _
      rw [show [a, b].take (0 + 1) = [a] from rfl, e1]
    · rfl
  | _ :: _ :: _ :: _, h, _, _ =>
    simp only [List.length_cons] at h
    have := Tr.arity_range op
    omega
theorem put_kids_len {op : Int} {ks : List KidC} (h : Tr.arity op = ks.length) (f : Nat → Int) (n : Nat) (hn : f n = op) : (Tr.kidsB f n).length = ks.length := by
  unfold Tr.kidsB
  rw [hn]
  have := Tr.arity_range op
  split
  · simp; omega
  · split
    · simp; omega
    · simp; omega
theorem rd_left {w : World} {B : Nat} {A : Option Addr} {xs ys : List Value} (h : Rd w B A (xs ++ ys)) : Rd w B A xs := fun hn => by
  obtain ⟨ad, e, hb, hc⟩ := h (by rw [List.length_append]; omega)
  exact ⟨ad, e, hb, fun j u hu => hc j u (by rw [List.getElem?_append_left (List.getElem?_eq_some_iff.1 hu).1]; exact hu)⟩
set_option maxRecDepth 100000 in
set_option maxHeartbeats 8000000 in
theorem law_puts (W : World) (op : Int) (K : Option Addr) (c : Nat) (ks : List KidC) (hlm : ks.length ≤ maxLen) (hr : Rd W W.heap.size K (ks.map kidV)) (hk : ∀ k ∈ ks, KidOK W k) :
    Calls Try.prog 11 #[.int .i64 op, .slice K ks.length c] W fun e W' => e = .returned (.bool true) ∧ Below W.heap.size W W' := by
  have HR := Lib.hid hr
  have HK := Lib.hid hk
  clear hr hk
  unfold maxLen at hlm
  obtain ⟨i, hi, hzz⟩ := Option.map_eq_some_iff.1 item_info
  simp only [Prod.mk.injEq] at hzz
  obtain ⟨hz0, hz1, hz2⟩ := hzz
  by_cases h4 : 4 < ks.length
  · have HC := Lib.hid (Chg.refl (fun _ => False) W)
    have hh : decide ((4 : Int) < (ks.length : Int)) = true := by rw [decide_eq_true_iff]; omega
    clear h4
    go_enter Try.func11, Try.ntmps11
    go_wp2_with (go_at_call 34; refine Calls.mono (tawake_any _) ?_; rintro e w' ⟨rfl, h⟩; have HC := Lib.hid (Chg.trans HC.out h (fun _ _ h => h)); clear h)
    go_ret
    exact ⟨rfl, HC.out.below (Nat.le_refl _) (fun _ h => h.elim)⟩
  have hh : decide ((4 : Int) < (ks.length : Int)) = false := by rw [decide_eq_false_iff_not]; omega
  obtain ⟨mb0, hmb0⟩ : ∃ mb, mb = (Tr.arity op == (ks.length : Int)) := ⟨_, rfl⟩
  replace hmb0 := Lib.hid hmb0
  have hl4 : ks.length ≤ 4 := by omega
  clear h4
  obtain ⟨ar, har⟩ : ∃ ar, ar = Tr.arity op := ⟨_, rfl⟩
  rw [← har] at hmb0
  replace har := Lib.hid har
  go_enter Try.func11, Try.ntmps11
  go_wp2_with (go_at_call 39; refine (arity_any _ _).mono ?_; rintro e w' ⟨rfl, rfl⟩; rw [← har.out])
  go_loopw [7, 6, 5] (fun i m v wr => ∃ (j : Nat) (mb : Bool), j ≤ ks.length ∧ i = .int .i64 j ∧ m = .bool mb ∧ Hid (mb = true ↔ Tr.arity op = ks.length ∧ ∀ k ∈ ks.take j, Tr.check (sg k.f) k.f.length = 0) ∧ Hid (∀ k ∈ ks.take j, k.f.length ≤ 100) ∧ Hid (wr.ownsRow W.heap.size 70 9 v (allK (ks.take j)).length (cellsI (allK (ks.take j)))) ∧ Hid (Chg (fun _ => False) W wr)) (fun i _ _ _ => ks.length - (intOf i).toNat)
  case atStart => exact ⟨0, _, Nat.zero_le _, rfl, rfl, Lib.hid (by rw [beq_iff_eq, har.out]; simp), Lib.hid (fun k h => by simp at h), Lib.hid (World.ownsRow_nil _ _ _ _), Chg.refl _ _⟩
  case round =>
    obtain ⟨j, mb, hj, rfl, rfl, hM, hL, hO, hC⟩ := hrel
    by_cases hlt : j < ks.length
    · obtain ⟨x, hx⟩ : ∃ x, ks[j]? = some x := ⟨_, List.getElem?_eq_getElem hlt⟩
      have hxm := Lib.hid (List.mem_of_getElem? hx)
      obtain ⟨b1, o1, hA1, hb1, hc1⟩ := (HR.out.chg hC.out (Nat.le_refl _) (fun _ h => h.elim)).plain (by simp; omega)
      have c1 := hc1 j (kidV x) (by simp [hx])
      unfold kidV at c1
      subst hA1
      clear hc1
      have hkx := (HK.out x hxm.out).later hC.out (fun _ h => h.elim)
      have hxlm := hkx.1
      unfold maxLen at hxlm
      by_cases h100 : 100 < x.f.length
      · have hd : decide ((100 : Int) < (x.f.length : Int)) = true := by rw [decide_eq_true_iff]; omega
        have HC := Lib.hid hC.out
        clear hx h100 hkx
        go_wp2_with (go_at_call 34; refine Calls.mono (tawake_any _) ?_; rintro e w' ⟨rfl, h⟩; have HC := Lib.hid (Chg.trans HC.out h (fun _ _ h => h)); clear h)
        go_ret
        exact ⟨rfl, HC.out.below (Nat.le_refl _) (fun _ h => h.elim)⟩
      have hd : decide ((100 : Int) < (x.f.length : Int)) = false := by rw [decide_eq_false_iff_not]; omega
      have hl100 : x.f.length ≤ 100 := by omega
      clear h100
      have hck := Lib.hid (refCheck_any' wr x.A x.c x.f hkx.1 hkx.2.1)
      replace hkx := Lib.hid hkx
      have htk := Lib.hid (allK_take hx)
      have htake : Hid (ks.take (j + 1) = ks.take j ++ [x]) := by
        show _ = _
        obtain ⟨h1, h2⟩ := List.getElem?_eq_some_iff.1 hx
        rw [List.take_succ_eq_append_getElem h1, h2]
      clear hx
      obtain ⟨v, hv⟩ : ∃ v, v = Tr.check (sg x.f) x.f.length := ⟨_, rfl⟩
      rw [← hv] at hck
      have htot : (allK (ks.take j)).length ≤ 400 := by
        have h1 := allK_le (ks := ks.take j) hL.out
        rw [List.length_take] at h1; omega
      obtain ⟨q, hq⟩ : ∃ q, q = (allK (ks.take j)).length := ⟨_, rfl⟩
      rw [← hq] at hO htot
      obtain ⟨xl, hxl⟩ : ∃ xl, xl = x.f.length := ⟨_, rfl⟩
      rw [← hxl] at c1 hck hl100 hxlm hd
      replace hq := Lib.hid hq
      replace hxl := Lib.hid hxl
      have hL2 : Hid (∀ k ∈ ks.take (j + 1), k.f.length ≤ 100) := Lib.hid fun k hk => by
        rw [htake.out, List.mem_append, List.mem_singleton] at hk
        rcases hk with hk | rfl
        · exact hL.out k hk
        · rw [← hxl.out]; exact hl100
      have hM2 : ∀ nb : Bool, (nb = true ↔ mb = true ∧ v = 0) → Hid (nb = true ↔ Tr.arity op = ks.length ∧ ∀ k ∈ ks.take (j + 1), Tr.check (sg k.f) k.f.length = 0) := fun nb hnb => Lib.hid (by
        rw [hnb, hM.out, htake.out]
        refine ⟨fun ⟨⟨h1, h2⟩, h3⟩ => ⟨h1, fun k hk => ?_⟩, fun ⟨h1, h2⟩ => ⟨⟨h1, fun k hk => h2 k (List.mem_append_left _ hk)⟩, ?_⟩⟩
        · rw [List.mem_append, List.mem_singleton] at hk
          rcases hk with hk | rfl
          · exact h2 k hk
          · rw [← hv]; exact h3
        · rw [hv]; exact h2 x (List.mem_append_right _ (by simp)))
      have hO2 : ∀ (u : Value) (wz : World), wz.ownsRow W.heap.size 70 9 u (q + xl) (cellsI (allK (ks.take j)) ++ cellsI x.f) → Hid (wz.ownsRow W.heap.size 70 9 u (allK (ks.take (j + 1))).length (cellsI (allK (ks.take (j + 1))))) := fun u wz h => Lib.hid (by
        rw [htk.out, List.length_append, cellsI_append, ← hq.out, ← hxl.out]; exact h)
      replace hO2 := Lib.hid hO2
      replace hv := Lib.hid hv
      rcases hA : x.A with _ | ad
      · obtain ⟨hf0, hcc⟩ := hkx.out.2.2 hA
        have hxl0 : xl = 0 := by rw [hxl.out, hf0]; rfl
        rw [hA, hcc, hxl0] at c1
        rw [hA, hcc, hxl0] at hck
        rw [hxl0] at hd
        have hON := hO2.out u5 wr (by rw [hxl0, hf0]; simpa [cellsI] using hO.out)
        replace hxl0 := Lib.hid hxl0
        clear hA hcc hf0 hkx
        cases mb with
        | false =>
          have hN := hM2 false (by simp)
          clear hM2
          go_wp2_with (first | (go_at_call 31; refine (hck.out).mono ?_; rintro e w' ⟨rfl, rfl⟩) | (at_builtin; refine wpList_append_own_none rfl (.tmp 43) (.tmp 47) 33 rfl W.heap.size 70 i 9 Try.underlying33 hi u5 q (cellsI (allK (ks.take j))) rfl (by exact hO.out) rfl ?_))
          go_roundw
          case rel => exact ⟨j + 1, false, by omega, by go_num, rfl, (by first | exact hN | exact Lib.hid (by have := hN.out; simpa using this)), hL2, hON, hC⟩
          case measure => (simp [intOf] <;> omega)
        | true =>
          by_cases hv0 : v = 0
          · have hN := hM2 true (by simp [hv0])
            have hvz : (v == 0) = true := by rw [beq_iff_eq]; exact hv0
            clear hM2 hv0
            go_wp2_with (first | (go_at_call 31; refine (hck.out).mono ?_; rintro e w' ⟨rfl, rfl⟩) | (at_builtin; refine wpList_append_own_none rfl (.tmp 43) (.tmp 47) 33 rfl W.heap.size 70 i 9 Try.underlying33 hi u5 q (cellsI (allK (ks.take j))) rfl (by exact hO.out) rfl ?_))
            go_roundw
            case rel => exact ⟨j + 1, true, by omega, by go_num, rfl, (by first | exact hN | exact Lib.hid (by have := hN.out; simpa using this)), hL2, hON, hC⟩
            case measure => (simp [intOf] <;> omega)
          · have hN := hM2 false (by simp [hv0])
            have hvz : (v == 0) = false := by rw [beq_eq_false_iff_ne]; exact hv0
            clear hM2 hv0
            go_wp2_with (first | (go_at_call 31; refine (hck.out).mono ?_; rintro e w' ⟨rfl, rfl⟩) | (at_builtin; refine wpList_append_own_none rfl (.tmp 43) (.tmp 47) 33 rfl W.heap.size 70 i 9 Try.underlying33 hi u5 q (cellsI (allK (ks.take j))) rfl (by exact hO.out) rfl ?_))
            go_roundw
            case rel => exact ⟨j + 1, false, by omega, by go_num, rfl, (by first | exact hN | exact Lib.hid (by have := hN.out; simpa using this)), hL2, hON, hC⟩
            case measure => (simp [intOf] <;> omega)
      · rw [hA] at c1 hck
        have hrx := hkx.out.2.1
        rw [hA] at hrx
        replace hrx := Lib.hid hrx
        have hsz := Lib.hid hC.out.size
        clear hA hkx
        cases mb with
        | false =>
          have hN := hM2 false (by simp)
          clear hM2
          go_wp2_with (first | (go_at_call 31; refine (hck.out).mono ?_; rintro e w' ⟨rfl, rfl⟩) | (at_builtin; refine wpList_append_own _ rfl (.tmp 43) (.tmp 47) 33 rfl W.heap.size 70 i _ 9 104 Try.underlying33 hi hz0 hz1 hz2 rfl (by omega) u5 q (cellsI (allK (ks.take j))) rfl (by exact hO.out) ad xl x.c (cellsI x.f) rfl (by rw [cellsI_len, ← hxl.out]) (rd_news hrx.out) (cellsI_one _) (by unfold maxLen; omega) (by omega) (by exact hsz.out) ?_; intro v' w3 hown3 hg3 hat3; have HO3 := Lib.hid (hO2.out v' w3 hown3); have HC3 := Lib.hid (Chg.trans hC.out (Chg.grown (S := fun k => Value.ownBlock u5 = some k) (Chg.refl _ _) hg3 (fun k hk => .inl hk)) (fun i hi e => by have := (hO.out.lt i e).1; omega)); clear hown3 hg3 hat3))
          go_roundw
          case rel => exact ⟨j + 1, false, by omega, by go_num, rfl, (by first | exact hN | exact Lib.hid (by have := hN.out; simpa using this)), hL2, HO3, HC3⟩
          case measure => (simp [intOf] <;> omega)
        | true =>
          by_cases hv0 : v = 0
          · have hN := hM2 true (by simp [hv0])
            have hvz : (v == 0) = true := by rw [beq_iff_eq]; exact hv0
            clear hM2 hv0
            go_wp2_with (first | (go_at_call 31; refine (hck.out).mono ?_; rintro e w' ⟨rfl, rfl⟩) | (at_builtin; refine wpList_append_own _ rfl (.tmp 43) (.tmp 47) 33 rfl W.heap.size 70 i _ 9 104 Try.underlying33 hi hz0 hz1 hz2 rfl (by omega) u5 q (cellsI (allK (ks.take j))) rfl (by exact hO.out) ad xl x.c (cellsI x.f) rfl (by rw [cellsI_len, ← hxl.out]) (rd_news hrx.out) (cellsI_one _) (by unfold maxLen; omega) (by omega) (by exact hsz.out) ?_; intro v' w3 hown3 hg3 hat3; have HO3 := Lib.hid (hO2.out v' w3 hown3); have HC3 := Lib.hid (Chg.trans hC.out (Chg.grown (S := fun k => Value.ownBlock u5 = some k) (Chg.refl _ _) hg3 (fun k hk => .inl hk)) (fun i hi e => by have := (hO.out.lt i e).1; omega)); clear hown3 hg3 hat3))
            go_roundw
            case rel => exact ⟨j + 1, true, by omega, by go_num, rfl, (by first | exact hN | exact Lib.hid (by have := hN.out; simpa using this)), hL2, HO3, HC3⟩
            case measure => (simp [intOf] <;> omega)
          · have hN := hM2 false (by simp [hv0])
            have hvz : (v == 0) = false := by rw [beq_eq_false_iff_ne]; exact hv0
            clear hM2 hv0
            go_wp2_with (first | (go_at_call 31; refine (hck.out).mono ?_; rintro e w' ⟨rfl, rfl⟩) | (at_builtin; refine wpList_append_own _ rfl (.tmp 43) (.tmp 47) 33 rfl W.heap.size 70 i _ 9 104 Try.underlying33 hi hz0 hz1 hz2 rfl (by omega) u5 q (cellsI (allK (ks.take j))) rfl (by exact hO.out) ad xl x.c (cellsI x.f) rfl (by rw [cellsI_len, ← hxl.out]) (rd_news hrx.out) (cellsI_one _) (by unfold maxLen; omega) (by omega) (by exact hsz.out) ?_; intro v' w3 hown3 hg3 hat3; have HO3 := Lib.hid (hO2.out v' w3 hown3); have HC3 := Lib.hid (Chg.trans hC.out (Chg.grown (S := fun k => Value.ownBlock u5 = some k) (Chg.refl _ _) hg3 (fun k hk => .inl hk)) (fun i hi e => by have := (hO.out.lt i e).1; omega)); clear hown3 hg3 hat3))
            go_roundw
            case rel => exact ⟨j + 1, false, by omega, by go_num, rfl, (by first | exact hN | exact Lib.hid (by have := hN.out; simpa using this)), hL2, HO3, HC3⟩
            case measure => (simp [intOf] <;> omega)
    · obtain rfl : j = ks.length := by omega
      rw [List.take_length] at hM hL hO
      clear hlt hj
      have htot : (allK ks).length ≤ 400 := by
        have h1 := allK_le (ks := ks) hL.out; omega
      obtain ⟨A5, c5, rfl, hqc, _⟩ := own_slice hO.out
      have HP := Lib.hid (put_any wr op K c ks hl4 hL.out (HR.out.later hC.out (fun _ h => h.elim)) (fun k hk => (HK.out k hk).later hC.out (fun _ h => h.elim)))
      obtain ⟨q, hq⟩ : ∃ q, q = (allK ks).length := ⟨_, rfl⟩
      rw [← hq] at hO htot hqc
      rw [← hq]
      replace hq := Lib.hid hq
      go_wp2_with fail
      refine Calls.mono HP.out ?_
      rintro e w1 ⟨hch, ⟨hgood, g, c1, rfl, hcap, hrd⟩ | ⟨hbad, rfl⟩⟩
      · have HC := Lib.hid (Chg.trans hC.out hch (fun _ _ h => h))
        have hO1 := Lib.hid (own_chg hO.out hch (fun _ _ h => h))
        have hmt : mb = true := hM.out.2 ⟨hgood.1, hgood.2.1⟩
        subst hmt
        have h64 := hgood.2.2
        rw [← hq.out] at h64 hcap
        replace hgood := Lib.hid hgood
        have hd64 : decide ((64 : Int) ≤ (q : Int)) = false := by rw [decide_eq_false_iff_not]; omega
        have hF : (allK ks ++ [itm op]).length = q + 1 := by rw [List.length_append, ← hq.out]; rfl
        have hF0 : Tr.check (sg (allK ks ++ [itm op])) (allK ks ++ [itm op]).length = 0 := by
          rw [hF, Tr.check_zero]
          refine ⟨by omega, by omega, ?_⟩
          rw [hq.out]
          exact put_beg hgood.out.1 hgood.out.2.1
        have HE := Lib.hid (fun (wz : World) (hz : Chg (fun _ => False) w1 wz) => exact_same wz (some ⟨g, 0, none⟩) A5 c1 c5 (allK ks) (by rw [← hq.out]; omega) (rd_left (by rw [← cellsI_append]; exact hrd.later hz (fun _ h => h.elim))) (by
          have h1 := (own_rdN hO1.out).later hz (fun _ h => h.elim)
          exact h1))
        have HKI := Lib.hid (fun (wz : World) (hz : Chg (fun _ => False) w1 wz) => kids_ok wz (some ⟨g, 0, none⟩) c1 (allK ks ++ [itm op]) (by rw [hF]; unfold maxLen; omega) (hrd.later hz (fun _ h => h.elim)) q (by rw [hF]; omega) hF0)
        rw [← hq.out] at HE
        rw [hF] at HKI
        have hlast : ∀ (wz : World), Chg (fun _ => False) w1 wz → _ := fun wz hz => item_at (hrd.later hz (fun _ h => h.elim)) (i := q) (x := itm op) (by rw [hq.out, List.getElem?_append_right (Nat.le_refl _), Nat.sub_self]; rfl)
        replace hrd := Lib.hid hrd
        replace hlast := Lib.hid hlast
        rw [← hq.out]
        have hkl := Lib.hid (put_kids_len hgood.out.1 (sg (allK ks ++ [itm op])) q (by rw [hq.out]; exact sg_last _ _))
        have hkj := Lib.hid (put_kids hgood.out.1 hgood.out.2.1)
        rw [← hq.out] at hkj
        obtain ⟨es, hes⟩ : ∃ es, es = Tr.kidsB (sg (allK ks ++ [itm op])) q := ⟨_, rfl⟩
        rw [← hes] at hkl hkj HKI
        clear hch hF hF0 hM hes h64
        go_wp2_with fail
        refine Calls.mono (HE.out _ (Chg.refl _ _)) ?_
        rintro e w2 ⟨rfl, h2⟩
        obtain ⟨b2, o2, hA2, _, e0, e1, e2, e3, e4, e5, e6, e7, e8⟩ := hlast.out _ h2
        injection hA2 with hA2
        injection hA2 with hg hg0 _
        subst hg
        subst hg0
        simp only [Nat.zero_add] at e0 e1 e2 e3 e4 e5 e6 e7 e8
        simp only [itm] at e0 e1 e2 e3 e4 e5 e6 e7 e8
        have HC2 := Lib.hid (Chg.trans HC.out h2 (fun _ _ h => h))
        replace h2 := Lib.hid h2
        go_wp2_with fail
        refine Calls.mono (HKI.out _ h2.out) ?_
        rintro e w3 ⟨A6, c6, rfl, hkm, hrd6, h3, -⟩
        rw [hkl.out] at hkm ⊢
        have HC3 := Lib.hid (Chg.trans HC2.out h3 (fun _ _ h => h))
        clear h3 e0 e1 e2 e3 e4 e5 e6 e7 e8 hkm
        replace hrd6 := Lib.hid hrd6
        have hL := hL
        go_wp2_with fail
        go_loopw [11, 10] (fun i n wr => ∃ j : Nat, j ≤ ks.length ∧ i = .int .i64 j ∧ n = .int .i64 ((allK (ks.take j)).length : Nat) ∧ Hid (Chg (fun _ => False) w3 wr)) (fun i _ _ => ks.length - (intOf i).toNat)
        case atStart => exact ⟨0, Nat.zero_le _, rfl, rfl, Chg.refl _ _⟩
        case round =>
          obtain ⟨j, hj, rfl, rfl, hE⟩ := hrel
          have HCx := Lib.hid (Chg.trans HC3.out hE.out (fun _ _ h => h))
          by_cases hlt : j < ks.length
          · obtain ⟨x, hx⟩ : ∃ x, ks[j]? = some x := ⟨_, List.getElem?_eq_getElem hlt⟩
            obtain ⟨b1, o1, hA1, hb1, hc1⟩ := (HR.out.chg HCx.out (Nat.le_refl _) (fun _ h => h.elim)).plain (by simp; omega)
            have k1 := hc1 j (kidV x) (by simp [hx])
            unfold kidV at k1
            subst hA1
            clear hc1
            obtain ⟨b6, o6, hA6, hb6, hc6⟩ := (hrd6.out.chg hE.out (Nat.le_refl _) (fun _ h => h.elim)).plain (by simp [intsV]; rw [hkl.out]; omega)
            have k6 := hc6 j _ (by simp only [intsV, List.getElem?_map, hkj.out j hlt, Option.map_some]; rfl)
            subst hA6
            clear hc6
            have hl100 := hL.out x (List.mem_of_getElem? hx)
            have htot2 : (allK (ks.take j)).length ≤ 400 := by
              have h1 := allK_le (ks := ks.take j) (fun k hk => hL.out k (List.mem_of_mem_take hk))
              rw [List.length_take] at h1; omega
            have htk := Lib.hid (congrArg List.length (allK_take hx))
            rw [htk.out, List.length_append] at k6
            have htk2 : Hid ((allK (ks.take (j + 1))).length = (allK (ks.take j)).length + x.f.length) := Lib.hid (by rw [htk.out, List.length_append])
            clear hx
            obtain ⟨p, hp⟩ : ∃ p, p = (allK (ks.take j)).length := ⟨_, rfl⟩
            rw [← hp] at k6 htot2 ⊢
            replace hp := Lib.hid hp
            obtain ⟨xl, hxl⟩ : ∃ xl, xl = x.f.length := ⟨_, rfl⟩
            rw [← hxl] at k6 k1 hl100
            replace hxl := Lib.hid hxl
            have hcast : ((p + xl : Nat) : Int) - 1 = (p : Int) + (xl : Int) - 1 := by omega
            rw [hcast] at k6
            clear hcast
            have tt : (((p : Int) + (xl : Int) - 1) == ((p : Int) + (xl : Int) - 1)) = true := by simp
            have dj : decide ((ks.length : Int) ≤ (j : Int)) = false := by rw [decide_eq_false_iff_not]; omega
            go_wp2_with fail
            go_roundw
            case rel => exact ⟨j + 1, by omega, by go_num, by rw [htk2.out, ← hp.out, ← hxl.out]; go_num, hE⟩
            case measure => (simp [intOf] <;> omega)
          · obtain rfl : j = ks.length := by omega
            have HC := HCx
            have tt : ((ks.length : Int) == (ks.length : Int)) = true := by simp
            go_wp2_with (go_at_call 34; refine Calls.mono (tawake_any _) ?_; rintro e w' ⟨rfl, h⟩; have HC := Lib.hid (Chg.trans HC.out h (fun _ _ h => h)); clear h)
            go_ret
            exact ⟨rfl, HC.out.below (Nat.le_refl _) (fun _ h => h.elim)⟩
      · have HC := Lib.hid (Chg.trans hC.out hch (fun _ _ h => h))
        clear hch
        by_cases hmt : mb = true
        · have h64 : 64 ≤ q := by
            refine Nat.le_of_not_lt fun h => hbad ⟨(hM.out.1 hmt).1, (hM.out.1 hmt).2, ?_⟩
            rw [← hq.out]; exact h
          have hd64 : decide ((64 : Int) ≤ (q : Int)) = true := by rw [decide_eq_true_iff]; omega
          subst hmt
          clear hbad h64
          go_wp2_with (go_at_call 34; refine Calls.mono (tawake_any _) ?_; rintro e w' ⟨rfl, h⟩; have HC := Lib.hid (Chg.trans HC.out h (fun _ _ h => h)); clear h)
          go_ret
          exact ⟨rfl, HC.out.below (Nat.le_refl _) (fun _ h => h.elim)⟩
        · have hmf : mb = false := by simpa using hmt
          subst hmf
          clear hbad hmt
          go_wp2_with (go_at_call 34; refine Calls.mono (tawake_any _) ?_; rintro e w' ⟨rfl, h⟩; have HC := Lib.hid (Chg.trans HC.out h (fun _ _ h => h)); clear h)
          go_ret
          exact ⟨rfl, HC.out.below (Nat.le_refl _) (fun _ h => h.elim)⟩
end Go.Proofs.Ytpppgnphblbbcaa
