/- The walks of Put and of the reference's Exact. -/
import Derived.Test.YtpppgnphblbbcaaTrAwake
import Derived.Test.YtpppgnphblbbcaaBnSame
import Derived.Laws.AppendOwnNone
import Derived.BigQuiet
namespace Go.Proofs.Ytpppgnphblbbcaa
open Go.RowKit

structure KidC where
  A : Option Addr
  f : List Nm.Item
  c : Nat
def kidV (k : KidC) : Value := .slice k.A k.f.length k.c
def allK (ks : List KidC) : List Nm.Item := ks.flatMap (fun k => k.f)
def KidOK (W : World) (k : KidC) : Prop := k.f.length ≤ maxLen ∧ Rd W W.heap.size k.A (cellsI k.f) ∧ (k.A = none → k.f = [] ∧ k.c = 0)
theorem KidOK.later {S : Nat → Prop} {w w' : World} {k : KidC} (h : KidOK w k) (hc : Chg S w w') (hS : ∀ k, S k → w.heap.size ≤ k) : KidOK w' k := ⟨h.1, h.2.1.later hc hS, h.2.2⟩
theorem allK_take {ks : List KidC} {j : Nat} {k : KidC} (h : ks[j]? = some k) : allK (ks.take (j + 1)) = allK (ks.take j) ++ k.f := by
  obtain ⟨h1, h2⟩ := List.getElem?_eq_some_iff.1 h
  unfold allK
  rw [List.take_succ_eq_append_getElem h1, h2, List.flatMap_append]; simp
theorem cellsI_append (a b : List Nm.Item) : cellsI (a ++ b) = cellsI a ++ cellsI b := by simp [cellsI]
theorem cellsI_len (a : List Nm.Item) : (cellsI a).length = a.length * 9 := flat_len itemC itemC_len a
theorem allK_le : ∀ {ks : List KidC}, (∀ k ∈ ks, k.f.length ≤ 100) → (allK ks).length ≤ ks.length * 100
  | [], _ => by simp [allK]
  | k :: r, h => by
    have h1 := h k List.mem_cons_self
    have h2 := allK_le (ks := r) (fun x hx => h x (List.mem_cons_of_mem _ hx))
    unfold allK at h2 ⊢
    rw [List.flatMap_cons, List.length_append, List.length_cons]; omega
theorem item_info : (Try.prog.info? 70).map (fun i => (i.zero, i.size, i.bytes)) = some (some (.agg (itemA (itm 0))), 9, 104) := by kernel_rfl
theorem cellsI_one (f : List Nm.Item) : ∀ u ∈ cellsI f, u.oneCell' = true := by
  intro u hu
  unfold cellsI at hu
  rw [List.mem_flatMap] at hu
  obtain ⟨x, _, hx⟩ := hu
  simp only [itemC, itemA, List.mem_cons, List.not_mem_nil, or_false] at hx
  rcases hx with rfl | rfl | rfl | rfl | rfl | rfl | rfl | rfl | rfl <;> rfl
theorem rd_news {w : World} {B : Nat} {ad : Addr} {xs : List Value} (h : Rd w B (some ad) xs) : ∀ j u, xs[j]? = some u → w.cell? (ad.add j) = some u := fun j u hu => by
  obtain ⟨ad', e, _, hc⟩ := h (by have := (List.getElem?_eq_some_iff.1 hu).1; omega)
  injection e with e
  subst e
  exact hc j u hu
theorem own_cap {w : World} {base n c size : Nat} {e : TypeId} {A : Option Addr} {xs : List Value} (h : w.ownsRow base e size (.slice A n c) n xs) : n ≤ c := by
  rcases h.2 with ⟨h1, h2⟩ | ⟨g, cap, cur, h1, _, hh, hnc, hcm, hcs, htk⟩
  · omega
  · injection h1 with hA _ hc; subst hc; exact hnc
/-- What Put answers. -/
def PutR (w0 : World) (op : Int) (ks : List KidC) (e : Ending) (w' : World) : Prop :=
  Chg (fun _ => False) w0 w' ∧ (((Tr.arity op = ks.length ∧ (∀ k ∈ ks, Tr.check (sg k.f) k.f.length = 0) ∧ (allK ks).length < 64) ∧ ∃ g c, e = .returned (.slice (some ⟨g, 0, none⟩) ((allK ks).length + 1) c) ∧ (allK ks).length + 1 ≤ c ∧ Rd w' w'.heap.size (some ⟨g, 0, none⟩) (cellsI (allK ks ++ [itm op]))) ∨
  (¬ (Tr.arity op = ks.length ∧ (∀ k ∈ ks, Tr.check (sg k.f) k.f.length = 0) ∧ (allK ks).length < 64) ∧ e = .returned (.slice none 0 0)))
theorem sg_left {a b : List Nm.Item} {i : Nat} (h : i < a.length) : sg (a ++ b) i = sg a i := by unfold sg; rw [List.getElem?_append_left h]
theorem sg_right {a b : List Nm.Item} {i : Nat} : sg (a ++ b) (a.length + i) = sg b i := by unfold sg; rw [List.getElem?_append_right (by omega)]; congr 1; rw [show a.length + i - a.length = i by omega]
theorem sg_last (a : List Nm.Item) (op : Int) : sg (a ++ [itm op]) a.length = op := by
  have := sg_right (a := a) (b := [itm op]) (i := 0)
  rw [Nat.add_zero] at this
  rw [this]; rfl
/-- What is put of formulas is a formula. -/
theorem put_beg {op : Int} {ks : List KidC} (h : Tr.arity op = ks.length) (hk : ∀ k ∈ ks, Tr.check (sg k.f) k.f.length = 0) : Tr.beg (sg (allK ks ++ [itm op])) 1 ((allK ks).length + 1) = 0 := by
  rw [Tr.beg_succ, sg_last]
  match ks, h, hk with
  | [], h, _ =>
    simp only [List.length_nil] at h
    rw [h]
    simp [allK]
  | [a], h, hk =>
    simp only [List.length_cons, List.length_nil] at h
    have ha := (Tr.check_zero.1 (hk a (by simp))).2.2
    have e : allK [a] = a.f := by simp [allK]
    rw [h, e, if_neg (by omega), if_neg (by omega)]
    rw [Tr.beg_congr (g := sg a.f) _ _ (fun i hi => sg_left hi)]
    exact ha
  | [a, b], h, hk =>
    simp only [List.length_cons, List.length_nil] at h
    have ha := (Tr.check_zero.1 (hk a (by simp))).2.2
    have hb := (Tr.check_zero.1 (hk b (by simp))).2.2
    have e : allK [a, b] = a.f ++ b.f := by simp [allK]
    rw [h, e, if_neg (by omega), if_neg (by omega), List.length_append]
    rw [Tr.beg_within (f := sg b.f) a.f.length b.f.length 1 _ (by omega) (by omega) hb (fun i hi => by
      rw [sg_left (by rw [List.length_append]; omega)]
      exact sg_right), if_neg (by omega)]
    rw [Tr.beg_congr (g := sg a.f) _ _ (fun i hi => by
      rw [sg_left (by rw [List.length_append]; omega)]
      exact sg_left hi)]
    exact ha
  | _ :: _ :: _ :: _, h, _ =>
    simp only [List.length_cons] at h
    have := Tr.arity_range op
    omega
set_option maxRecDepth 100000 in
set_option maxHeartbeats 4000000 in
theorem put_any (w : World) (op : Int) (K : Option Addr) (c : Nat) (ks : List KidC) (hl : ks.length ≤ 4) (hl2 : ∀ k ∈ ks, k.f.length ≤ 100) (hr : Rd w w.heap.size K (ks.map kidV)) (hk : ∀ k ∈ ks, KidOK w k) :
    Calls Try.prog 43 #[.int .i64 op, .slice K ks.length c] w fun e w' => PutR w op ks e w' := by
  have HR := Lib.hid hr
  have HK := Lib.hid hk
  have HL2 := Lib.hid hl2
  clear hr hk hl2
  obtain ⟨i, hi, hzz⟩ := Option.map_eq_some_iff.1 item_info
  simp only [Prod.mk.injEq] at hzz
  obtain ⟨hz0, hz1, hz2⟩ := hzz
  by_cases ha : Tr.arity op = (ks.length : Int)
  · have hz : (Tr.arity op == (ks.length : Int)) = true := by rw [beq_iff_eq]; exact ha
    have hzb : (Tr.arity op != (ks.length : Int)) = false := by rw [bne, hz]; rfl
    have hap : (0 : Int) ≤ Tr.arity op := by omega
    replace ha := Lib.hid ha
    go_enter Try.func43, Try.ntmps43
    go_wp2_with (go_at_call 39; refine (arity_any _ _).mono ?_; rintro e w' ⟨rfl, rfl⟩)
    go_loopw [15, 5] (fun i v wr => ∃ j : Nat, j ≤ ks.length ∧ i = .int .i64 j ∧ Hid (∀ k ∈ ks.take j, Tr.check (sg k.f) k.f.length = 0) ∧ Hid (wr.ownsRow w.heap.size 70 9 v (allK (ks.take j)).length (cellsI (allK (ks.take j)))) ∧ Hid (Chg (fun _ => False) w wr)) (fun i _ _ => ks.length - (intOf i).toNat)
    case atStart => exact ⟨0, Nat.zero_le _, rfl, Lib.hid (fun k h => by simp at h), Lib.hid (World.ownsRow_nil _ _ _ _), Chg.refl _ _⟩
    case round =>
      obtain ⟨j, hj, rfl, hS, hO, hC⟩ := hrel
      by_cases hlt : j < ks.length
      · obtain ⟨x, hx⟩ : ∃ x, ks[j]? = some x := ⟨_, List.getElem?_eq_getElem hlt⟩
        have hxm := Lib.hid (List.mem_of_getElem? hx)
        obtain ⟨b1, o1, hA1, hb1, hc1⟩ := (HR.out.chg hC.out (Nat.le_refl _) (fun _ h => h.elim)).plain (by simp; omega)
        have c1 := hc1 j (kidV x) (by simp [hx])
        unfold kidV at c1
        subst hA1
        clear hc1
        have hkx := (HK.out x hxm.out).later hC.out (fun _ h => h.elim)
        have hck := Lib.hid (check_any wr x.A x.c x.f hkx.1 hkx.2.1)
        replace hkx := Lib.hid hkx
        have htk := Lib.hid (allK_take hx)
        have hl100 := HL2.out x hxm.out
        obtain ⟨v, hv⟩ : ∃ v, v = Tr.check (sg x.f) x.f.length := ⟨_, rfl⟩
        rw [← hv] at hck
        by_cases hv0 : v = 0
        · subst hv0
          have hpos := (Tr.check_zero.1 hv.symm).1
          obtain ⟨ad, had⟩ : ∃ ad, x.A = some ad := by
            rcases hA : x.A with _ | ad
            · have := hkx.out.2.2 hA; rw [this.1] at hpos; simp at hpos
            · exact ⟨ad, rfl⟩
          rw [had] at c1 hck
          have hrx := hkx.out.2.1
          rw [had] at hrx
          replace hrx := Lib.hid hrx
          replace hv := Lib.hid hv
          replace hx := Lib.hid hx
          have htot : (allK (ks.take j)).length ≤ 400 := by
            have h1 := allK_le (ks := ks.take j) (fun k hk => HL2.out k (List.mem_of_mem_take hk))
            rw [List.length_take] at h1; omega
          obtain ⟨q, hq⟩ : ∃ q, q = (allK (ks.take j)).length := ⟨_, rfl⟩
          rw [← hq] at hO htot
          obtain ⟨xl, hxl⟩ : ∃ xl, xl = x.f.length := ⟨_, rfl⟩
          rw [← hxl] at c1 hck hpos hl100
          replace hq := Lib.hid hq
          replace hxl := Lib.hid hxl
          clear had
          go_wp2_with (first | (go_at_call 30; refine (hck.out).mono ?_; rintro e w' ⟨rfl, h⟩; have HE := Lib.hid h; clear h) | (at_builtin; refine wpList_append_own _ rfl (.tmp 22) (.tmp 23) 33 rfl w.heap.size 70 i _ 9 104 Try.underlying33 hi hz0 hz1 hz2 rfl (by omega) u5 q (cellsI (allK (ks.take j))) rfl (by exact own_chg hO.out HE.out (fun _ _ h => h)) ad xl x.c (cellsI x.f) rfl (by rw [cellsI_len, ← hxl.out]) (rd_news (hrx.out.chg HE.out (Nat.le_refl _) (fun _ h => h.elim))) (cellsI_one _) (by unfold maxLen; omega) (by omega) (by have := hC.out.size; have := HE.out.size; omega) ?_; intro v' w3 hown3 hg3 hat3; have HO3 := Lib.hid hown3; have HC3 := Lib.hid (Chg.trans (Chg.trans hC.out HE.out (fun _ _ h => h)) (Chg.grown (S := fun k => Value.ownBlock u5 = some k) (Chg.refl _ _) hg3 (fun k hk => .inl hk)) (fun i hi e => by have := (hO.out.lt i e).1; omega)); clear hown3 hg3 hat3))
          go_roundw
          case rel =>
            refine ⟨j + 1, by omega, by go_num, Lib.hid (fun k hk => ?_), ?_, HC3⟩
            · obtain ⟨h1, h2⟩ := List.getElem?_eq_some_iff.1 hx.out
              rw [List.take_succ_eq_append_getElem h1, h2, List.mem_append, List.mem_singleton] at hk
              rcases hk with hk | rfl
              · exact hS.out k hk
              · exact hv.out.symm
            · show World.ownsRow _ _ _ _ _ _ _
              rw [htk.out, List.length_append, cellsI_append, ← hq.out, ← hxl.out]
              exact HO3.out
          case measure => (simp [intOf] <;> omega)
        · have hvz : (v == 0) = false := by rw [beq_eq_false_iff_ne]; omega
          have hvz2 : (v != 0) = true := by simpa using hv0
          replace hv0 := Lib.hid hv0
          replace hv := Lib.hid hv
          clear hx
          go_wp2_with (go_at_call 30; refine (hck.out).mono ?_; rintro e w' ⟨rfl, h⟩; have HE := Lib.hid h; clear h)
          go_ret
          exact ⟨Chg.trans hC.out HE.out (fun _ _ h => h), .inr ⟨fun h => hv0.out (hv.out.trans (h.2.1 x hxm.out)), rfl⟩⟩
      · obtain rfl : j = ks.length := by omega
        rw [List.take_length] at hS hO
        have htot : (allK ks).length ≤ 400 := by
          have h1 := allK_le (ks := ks) HL2.out; omega
        obtain ⟨q, hq⟩ : ∃ q, q = (allK ks).length := ⟨_, rfl⟩
        rw [← hq] at hO htot
        replace hq := Lib.hid hq
        have hsz := Lib.hid hC.out.size
        go_wp2_with (at_builtin; refine wpList_append_lies _ rfl (.tmp 26) (.tmp 29) 33 rfl w.heap.size 70 i _ 9 104 Try.underlying33 hi hz0 hz1 hz2 rfl (by omega) u5 q (cellsI (allK ks)) rfl (by exact World.ownsRow.alloc (w := wr) hO.out _) ⟨wr.heap.size, 0, none⟩ 1 1 (itemC (itm op)) rfl rfl (by exact all_new (Blk.new wr 70 (itemA (itm op)))) (cellsI_one [itm op]) (by omega) (by unfold maxLen; omega) (by omega) (by have := hsz.out; simp; omega) (wr.heap.size + 1) (by simp) ?_; intro g cap w3 hown3 hg3 hat3 hlt3; have HO3 := Lib.hid hown3; have HC3 := Lib.hid (Chg.trans hC.out (Chg.grown (S := fun k => Value.ownBlock u5 = some k) ((Chg.refl _ wr).alloc _) hg3 (fun k hk => .inl hk)) (fun i hi e => by have := (hO.out.lt i e).1; omega)); clear hown3 hg3 hat3 hlt3)
        have hF : (allK ks ++ [itm op]).length = q + 1 := by rw [List.length_append, ← hq.out]; rfl
        have hR3 : Hid (Rd w3 w3.heap.size (some ⟨g, 0, none⟩) (cellsI (allK ks ++ [itm op]))) := by
          show Rd _ _ _ _
          rw [cellsI_append, show cellsI [itm op] = itemC (itm op) by simp [cellsI]]
          exact own_rdN HO3.out
        have hcap := Lib.hid (own_cap HO3.out)
        have hck := check_any w3 (some ⟨g, 0, none⟩) cap (allK ks ++ [itm op]) (by rw [hF]; unfold maxLen; omega) hR3.out
        rw [hF] at hck
        obtain ⟨v, hv⟩ : ∃ v, v = Tr.check (sg (allK ks ++ [itm op])) (q + 1) := ⟨_, rfl⟩
        rw [← hv] at hck
        replace hck := Lib.hid hck
        by_cases h64 : q < 64
        · have hv0 : v = 0 := by
            rw [hv, Tr.check_zero]
            refine ⟨by omega, by omega, ?_⟩
            rw [hq.out]
            exact put_beg ha.out hS.out
          subst hv0
          have hgood : Hid (Tr.arity op = ks.length ∧ (∀ k ∈ ks, Tr.check (sg k.f) k.f.length = 0) ∧ (allK ks).length < 64) := Lib.hid ⟨ha.out, hS.out, by rw [← hq.out]; exact h64⟩
          clear hv hF
          go_wp2_with (go_at_call 30; refine (hck.out).mono ?_; rintro e w' ⟨rfl, h⟩; have HE := Lib.hid h; clear h)
          go_ret
          refine ⟨Chg.trans HC3.out HE.out (fun _ _ h => h), .inl ⟨hgood.out, g, cap, ?_, ?_, hR3.out.later HE.out (fun _ h => h.elim)⟩⟩
          · rw [← hq.out]; rfl
          · rw [← hq.out]; exact hcap.out
        · have hv0 : v = 3 := by rw [hv]; unfold Tr.check; rw [if_neg (by omega), if_pos (by omega)]
          subst hv0
          have hbad : Hid (¬ (Tr.arity op = ks.length ∧ (∀ k ∈ ks, Tr.check (sg k.f) k.f.length = 0) ∧ (allK ks).length < 64)) := Lib.hid fun h => by have := h.2.2; rw [← hq.out] at this; exact h64 this
          clear hv hF
          go_wp2_with (go_at_call 30; refine (hck.out).mono ?_; rintro e w' ⟨rfl, h⟩; have HE := Lib.hid h; clear h)
          go_ret
          exact ⟨Chg.trans HC3.out HE.out (fun _ _ h => h), .inr ⟨hbad.out, rfl⟩⟩
  · have hz : (Tr.arity op == (ks.length : Int)) = false := by rw [beq_eq_false_iff_ne]; exact ha
    have hzb : (Tr.arity op != (ks.length : Int)) = true := by rw [bne, hz]; rfl
    replace ha := Lib.hid ha
    go_enter Try.func43, Try.ntmps43
    go_wp2_with (go_at_call 39; refine (arity_any _ _).mono ?_; rintro e w' ⟨rfl, rfl⟩)
    go_ret
    exact ⟨Chg.refl _ _, .inr ⟨fun h => ha.out h.1, rfl⟩⟩
set_option maxRecDepth 100000 in
set_option maxHeartbeats 8000000 in
theorem exact_same (w : World) (A B : Option Addr) (c d : Nat) (a : List Nm.Item) (hla : a.length ≤ 1000) (hA : Rd w w.heap.size A (cellsI a)) (hB : Rd w w.heap.size B (cellsI a)) :
    Calls Try.prog 44 #[.slice A a.length c, .slice B a.length d] w fun e w' => e = .returned (.bool true) ∧ Chg (fun _ => False) w w' := by
  have HA := Lib.hid hA
  have HB := Lib.hid hB
  clear hA hB
  have hlz : ((a.length : Int) == (a.length : Int)) = true := by simp
  have hlz2 : ((a.length : Int) != (a.length : Int)) = false := by simp
  go_enter Try.func44, Try.ntmps44
  go_wp2
  go_loopw [5] (fun i wr => ∃ j : Nat, j ≤ a.length ∧ i = .int .i64 j ∧ Hid (Chg (fun _ => False) w wr)) (fun i _ => a.length - (intOf i).toNat)
  case atStart => exact ⟨0, Nat.zero_le _, rfl, Chg.refl _ _⟩
  case round =>
    obtain ⟨j, hj, rfl, hC⟩ := hrel
    by_cases hlt : j < a.length
    · obtain ⟨x, hx⟩ : ∃ x, a[j]? = some x := ⟨_, List.getElem?_eq_getElem hlt⟩
      obtain ⟨b1, o1, hA1, hb1, c0, c1, c2, c3, c4, c5, c6, c7, c8⟩ := item_at (HA.out.chg hC.out (Nat.le_refl _) (fun _ h => h.elim)) hx
      obtain ⟨b2, o2, hA2, hb2, e0, e1, e2, e3, e4, e5, e6, e7, e8⟩ := item_at (HB.out.chg hC.out (Nat.le_refl _) (fun _ h => h.elim)) hx
      subst hA1
      subst hA2
      clear hx
      go_wp2_with fail
      go_quiet (fail)
      have HE := Lib.hid (hC.out.drewN nq)
      go_wp2
      go_roundw
      case rel => exact ⟨j + 1, by omega, by go_num, HE⟩
      case measure => (simp [intOf] <;> omega)
    · go_wp2
      go_ret
      exact ⟨rfl, hC.out⟩
end Go.Proofs.Ytpppgnphblbbcaa
