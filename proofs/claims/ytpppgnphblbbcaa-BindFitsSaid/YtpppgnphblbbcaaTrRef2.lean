/- The walks of the reference's Kids, Depth, Deep, Uses and of Uses. -/
import Derived.Test.YtpppgnphblbbcaaTrRef
namespace Go.Proofs.Ytpppgnphblbbcaa
open Go.RowKit

def intsV (l : List Int) : List Value := l.map (Value.int .i64)
/-- A slice of ints that lies in memory made behind block B, or is nil. -/
def KidsR (w0 : World) (l : List Int) (e : Ending) (w' : World) : Prop :=
  ∃ A c, e = .returned (.slice A l.length c) ∧ l.length ≤ maxLen ∧ Rd w' w'.heap.size A (intsV l) ∧ Chg (fun _ => False) w0 w' ∧ ∀ ad, A = some ad → w0.heap.size ≤ ad.block
theorem kids_nil (w : World) : KidsR w [] (.returned (.slice none 0 0)) w := ⟨none, 0, rfl, by simp, fun h => by simp [intsV] at h, Chg.refl _ _, fun ad h => by cases h⟩
theorem kids_one {w0 : World} (w : World) (a : Int) (h : Chg (fun _ => False) w0 w) : KidsR w0 [a] (.returned (.slice (some ⟨w.heap.size, 0, none⟩) 1 1)) (w.alloc (.cells #[.int .i64 a] 3)) :=
  ⟨_, _, rfl, by unfold maxLen; simp, fun _ => ⟨_, rfl, by simp, all_new (Blk.new w 3 #[.int .i64 a])⟩, h.alloc _, fun ad h2 => by injection h2 with h2; subst h2; exact h.size⟩
theorem kids_two {w0 : World} (w : World) (a b : Int) (h : Chg (fun _ => False) w0 w) : KidsR w0 [a, b] (.returned (.slice (some ⟨w.heap.size, 0, none⟩) 2 2)) (w.alloc (.cells #[.int .i64 a, .int .i64 b] 3)) :=
  ⟨_, _, rfl, by unfold maxLen; simp, fun _ => ⟨_, rfl, by simp, all_new (Blk.new w 3 #[.int .i64 a, .int .i64 b])⟩, h.alloc _, fun ad h2 => by injection h2 with h2; subst h2; exact h.size⟩
set_option maxRecDepth 100000 in
set_option maxHeartbeats 2000000 in
theorem refKids_any (w : World) (A : Option Addr) (c : Nat) (f : List Nm.Item) (e : Nat) (he : e < f.length) (h1 : Tr.arity (sg f e) ≠ 0 → 1 ≤ e) (hl : f.length ≤ 1000) (hr : Rd w w.heap.size A (cellsI f)) :
    Calls Try.prog 37 #[.slice A f.length c, .int .i64 e] w fun r w' => KidsR w (Tr.kidsB (sg f) e) r w' := by
  have HR := Lib.hid hr
  have hk := Lib.hid (kidsB_int f e)
  obtain ⟨b, o, rfl, hb, hc⟩ := op_at hr he
  clear hr
  by_cases h0 : Tr.arity (sg f e) = 0
  · have hK : Tr.kidsB (sg f) e = [] := by rw [hk.out, if_pos h0]
    rw [hK]
    replace h0 := Lib.hid h0
    clear hK h1
    go_enter Try.func37, Try.ntmps37
    go_wp2_with (go_at_call 40; refine (refArity_any _ _).mono ?_; rintro e w' ⟨rfl, rfl⟩; rw [h0.out])
    go_ret
    exact kids_nil w
  obtain ⟨k, rfl⟩ : ∃ k, e = k + 1 := ⟨e - 1, by have := h1 h0; omega⟩
  have hkk : ((k + 1 : Nat) : Int) - 1 = k := by omega
  by_cases h2 : Tr.arity (sg f (k + 1)) = 1
  · have hK : Tr.kidsB (sg f) (k + 1) = [(k : Int)] := by rw [hk.out, if_neg h0, if_pos h2, hkk]
    rw [hK]
    replace h2 := Lib.hid h2
    clear hK h1 h0
    go_enter Try.func37, Try.ntmps37
    go_wp2_with (go_at_call 40; refine (refArity_any _ _).mono ?_; rintro e w' ⟨rfl, rfl⟩; rw [h2.out])
    go_ret
    exact kids_one w _ (Chg.refl _ _)
  · have hK : Tr.kidsB (sg f) (k + 1) = [Tr.beg (sg f) 1 (k + 1) - 1, (k : Int)] := by rw [hk.out, if_neg h0, if_neg h2, hkk]
    rw [hK]
    clear hK hk
    have ha : (Tr.arity (sg f (k + 1)) == 0) = false := by rw [beq_eq_false_iff_ne]; exact h0
    have hb1 : (Tr.arity (sg f (k + 1)) == 1) = false := by rw [beq_eq_false_iff_ne]; exact h2
    have hbg := refBegin_any w (some ⟨b, o, none⟩) c f k (by omega) hl HR.out
    have hb0 := Tr.beg_lt (f := sg f) (k + 1) 1
    have hb2 := Tr.beg_ge (f := sg f) (k + 1) 1
    obtain ⟨v, hv⟩ : ∃ v, v = Tr.beg (sg f) 1 (k + 1) := ⟨_, rfl⟩
    rw [← hv] at hbg hb0 hb2 ⊢
    clear hv hkk h1 h0 h2
    replace hbg := Lib.hid hbg
    go_enter Try.func37, Try.ntmps37
    go_wp2_with (first | (go_at_call 40; refine (refArity_any _ _).mono ?_; rintro e w' ⟨rfl, rfl⟩) | (go_at_call 38; refine (hbg.out).mono ?_; rintro e w' ⟨rfl, rfl⟩))
    go_ret
    exact kids_two w _ _ (Chg.refl _ _)

theorem endOf_lt {f : Nat → Int} {t : Tr.T} {lo hi : Nat} (h : Tr.WF f t lo hi) : t.endOf < hi := by have := h.end_; omega
theorem wf_arity {f : Nat → Int} {t : Tr.T} {lo a : Nat} (h : Tr.WF f t lo (a + 1)) : Tr.arity (f a) ≠ 0 → 1 ≤ a := by
  cases t with
  | leaf c => simp only [Tr.WF] at h; obtain ⟨rfl, h2, h3⟩ := h; obtain rfl : a = c := by omega
              intro h; exact absurd h3 h
  | one c x => simp only [Tr.WF] at h; obtain ⟨h2, h3, h4⟩ := h; have := h4.lt; omega
  | two c x y => simp only [Tr.WF] at h; obtain ⟨h2, h3, m, h4, h5⟩ := h; have := h4.lt; have := h5.lt; omega
/-- The parts that a part is put of. -/
def subT : Tr.T → List Tr.T
  | .leaf _ => []
  | .one _ x => [x]
  | .two _ x y => [x, y]
theorem kids_sub (t : Tr.T) : t.kids.map (fun (n : Nat) => (n : Int)) = (subT t).map (fun x => (x.endOf : Int)) := by cases t <;> rfl
def mxT (l : List Tr.T) : Nat := l.foldl (fun m x => max m x.deep) 0
theorem mxT_snoc (l : List Tr.T) (x : Tr.T) : mxT (l ++ [x]) = max (mxT l) x.deep := by simp [mxT]
theorem deep_sub (t : Tr.T) : t.deep = mxT (subT t) + 1 := by cases t <;> simp [subT, mxT, Tr.T.deep]
theorem sub_wf {f : Nat → Int} {t : Tr.T} {lo hi : Nat} (h : Tr.WF f t lo hi) : ∀ x ∈ subT t, x.endOf + 1 < hi ∧ ∃ l, Tr.WF f x l (x.endOf + 1) := by
  cases t with
  | leaf c => intro x hx; simp [subT] at hx
  | one c y =>
    simp only [Tr.WF] at h; obtain ⟨h2, h3, h4⟩ := h
    intro x hx; simp only [subT, List.mem_singleton] at hx; subst hx
    have := h4.end_
    exact ⟨by omega, lo, by rw [this]; exact h4⟩
  | two c y z =>
    simp only [Tr.WF] at h; obtain ⟨h2, h3, m, h4, h5⟩ := h
    have e1 := h4.end_; have e2 := h5.end_; have := h5.lt
    intro x hx; simp only [subT, List.mem_cons, List.not_mem_nil, or_false] at hx
    rcases hx with rfl | rfl
    · exact ⟨by omega, lo, by rw [e1]; exact h4⟩
    · exact ⟨by omega, m, by rw [e2]; exact h5⟩
theorem sub_deep {t : Tr.T} : ∀ x ∈ subT t, x.deep < t.deep := by
  cases t with
  | leaf c => intro x hx; simp [subT] at hx
  | one c y => intro x hx; simp only [subT, List.mem_singleton] at hx; subst hx; simp only [Tr.T.deep]; omega
  | two c y z =>
    intro x hx; simp only [subT, List.mem_cons, List.not_mem_nil, or_false] at hx
    rcases hx with rfl | rfl <;> (simp only [Tr.T.deep]; omega)
set_option maxRecDepth 100000 in
set_option maxHeartbeats 2000000 in
theorem refDepth_step (w : World) (A : Option Addr) (c : Nat) (f : List Nm.Item) (hl : f.length ≤ 1000) (HR : Hid (Rd w w.heap.size A (cellsI f))) (t : Tr.T) (e lo : Nat) (ht : t.deep ≤ 1000) (hw : Tr.WF (sg f) t lo (e + 1)) (he : e < f.length)
    (hrec : ∀ x ∈ subT t, ∀ w' : World, Chg (fun _ => False) w w' → Calls Try.prog 60 #[.slice A f.length c, .int .i64 (x.endOf : Int)] w' fun r w'' => r = .returned (.int .i64 x.deep) ∧ Chg (fun _ => False) w' w'') :
    Calls Try.prog 60 #[.slice A f.length c, .int .i64 e] w fun r w' => r = .returned (.int .i64 t.deep) ∧ Chg (fun _ => False) w w' := by
  have hkid := Lib.hid (refKids_any w A c f e he (wf_arity hw) hl HR.out)
  have hke := hw.kids
  rw [hke, kids_sub] at hkid
  clear hke
  have hds := Lib.hid (deep_sub t)
  have hdl : ∀ x ∈ subT t, x.deep ≤ 1000 := fun x hx => by have := sub_deep x hx; omega
  replace hdl := Lib.hid hdl
  clear ht hw
  obtain ⟨ts, hts⟩ : ∃ ts, ts = subT t := ⟨_, rfl⟩
  rw [← hts] at hkid hds hdl hrec
  clear hts
  replace hrec := Lib.hid hrec
  go_enter Try.func60, Try.ntmps60
  go_wp2_with (go_at_call 37; refine (hkid.out).mono ?_; rintro e w' ⟨A2, c2, rfl, hlen, hrd, hch, -⟩; rw [List.length_map]; rw [List.length_map] at hlen; have HC := Lib.hid hch; have HRD := Lib.hid hrd; clear hch hrd)
  unfold maxLen at hlen
  go_loopw [7, 5] (fun i n wr => ∃ j : Nat, j ≤ ts.length ∧ i = .int .i64 j ∧ n = .int .i64 (mxT (ts.take j) : Nat) ∧ mxT (ts.take j) ≤ 1000 ∧ Hid (Chg (fun _ => False) w' wr)) (fun i _ _ => ts.length - (intOf i).toNat)
  case atStart => exact ⟨0, Nat.zero_le _, rfl, rfl, by simp [mxT], Chg.refl _ _⟩
  case round =>
    obtain ⟨j, hj, rfl, rfl, hm, hC⟩ := hrel
    by_cases hlt : j < ts.length
    · obtain ⟨x, hx⟩ : ∃ x, ts[j]? = some x := ⟨_, List.getElem?_eq_getElem hlt⟩
      have hxm : x ∈ ts := List.mem_of_getElem? hx
      obtain ⟨b1, o1, hA1, hb1, hcell⟩ := (HRD.out.chg hC.out (Nat.le_refl _) (fun _ h => h.elim)).plain (by simp [intsV]; omega)
      have hc := hcell j (.int .i64 (x.endOf : Int)) (by simp [intsV, hx])
      clear hcell
      subst hA1
      have htk : Hid (ts.take (j + 1) = ts.take j ++ [x]) := by
        show _ = _
        obtain ⟨h1, h2⟩ := List.getElem?_eq_some_iff.1 hx
        rw [List.take_succ_eq_append_getElem h1, h2]
      have hcx := Lib.hid (hrec.out x hxm wr (Chg.trans HC.out hC.out (fun _ _ h => h)))
      have hdx := hdl.out x hxm
      clear hx hxm
      obtain ⟨q, hq⟩ : ∃ q, q = mxT (ts.take j) := ⟨_, rfl⟩
      rw [← hq] at hm ⊢
      replace hq := Lib.hid hq
      obtain ⟨dx, hdxx⟩ : ∃ d, d = x.deep := ⟨_, rfl⟩
      rw [← hdxx] at hcx hdx
      replace hdxx := Lib.hid hdxx
      go_wp2_with (go_at_call 60; refine (hcx.out).mono ?_; rintro e w' ⟨rfl, h⟩; have HE := Lib.hid h; clear h)
      go_roundw
      case rel =>
        refine ⟨j + 1, by omega, by go_num, ?_, ?_, Lib.hid (Chg.trans hC.out HE.out (fun _ _ h => h))⟩
        · rw [htk.out, mxT_snoc, ← hq.out, ← hdxx.out]
          congr 1
          split <;> omega
        · rw [htk.out, mxT_snoc, ← hq.out, ← hdxx.out]; omega
      case measure => (simp [intOf] <;> omega)
    · obtain rfl : j = ts.length := by omega
      rw [List.take_length] at hm ⊢
      go_wp2
      go_ret
      exact ⟨ret_int (by rw [hds.out]; rfl), Chg.trans HC.out hC.out (fun _ _ h => h)⟩
theorem Rd.later {S : Nat → Prop} {w w' : World} {A : Option Addr} {xs : List Value} (h : Rd w w.heap.size A xs) (hc : Chg S w w') (hS : ∀ k, S k → w.heap.size ≤ k) : Rd w' w'.heap.size A xs := (h.chg hc (Nat.le_refl _) hS).more hc.size
theorem refDepth_any (A : Option Addr) (c : Nat) (f : List Nm.Item) (hl : f.length ≤ 1000) : ∀ (n : Nat), n ≤ 1000 → ∀ (t : Tr.T) (e lo : Nat) (w : World), t.deep ≤ n → Tr.WF (sg f) t lo (e + 1) → e < f.length → Hid (Rd w w.heap.size A (cellsI f)) →
    Calls Try.prog 60 #[.slice A f.length c, .int .i64 e] w fun r w' => r = .returned (.int .i64 t.deep) ∧ Chg (fun _ => False) w w'
  | 0, _, t, e, lo, w, ht, hw, he, HR => by have := deep_sub t; omega
  | n + 1, hn, t, e, lo, w, ht, hw, he, HR =>
    refDepth_step w A c f hl HR t e lo (by omega) hw he fun x hx w' hc => by
      obtain ⟨h1, l, h2⟩ := sub_wf hw x hx
      have h3 := sub_deep x hx
      exact refDepth_any A c f hl n (by omega) x x.endOf l w' (by omega) h2 (by omega) (Lib.hid (HR.out.later hc (fun _ h => h.elim)))
theorem wf_deep {f : Nat → Int} : ∀ {t : Tr.T} {lo hi : Nat}, Tr.WF f t lo hi → t.deep ≤ hi - lo
  | .leaf a, lo, hi, h => by simp only [Tr.WF] at h; simp only [Tr.T.deep]; omega
  | .one a x, lo, hi, h => by simp only [Tr.WF] at h; have h1 := wf_deep h.2.2; have := h.2.2.lt; simp only [Tr.T.deep]; omega
  | .two a x y, lo, hi, h => by
    simp only [Tr.WF] at h; obtain ⟨h2, h3, m, h4, h5⟩ := h
    have h1 := wf_deep h4; have h1' := wf_deep h5; have := h4.lt; have := h5.lt; simp only [Tr.T.deep]; omega
/-- How deep a list is. -/
def DeepR (f : List Nm.Item) (v : Int) : Prop := (∃ t, Tr.run (sg f) f.length = some [t] ∧ Tr.check (sg f) f.length = 0 ∧ v = t.deep) ∨ (Tr.check (sg f) f.length ≠ 0 ∧ v = 0)
set_option maxRecDepth 100000 in
set_option maxHeartbeats 2000000 in
theorem refDeep_any (w : World) (A : Option Addr) (c : Nat) (f : List Nm.Item) (hl : f.length ≤ maxLen) (hr : Rd w w.heap.size A (cellsI f)) :
    Calls Try.prog 33 #[.slice A f.length c] w fun r w' => (∃ v, r = .returned (.int .i64 v) ∧ DeepR f v) ∧ Chg (fun _ => False) w w' := by
  have hck := Lib.hid (refCheck_any' w A c f hl hr)
  have HR := Lib.hid hr
  clear hr
  by_cases h0 : Tr.check (sg f) f.length = 0
  · obtain ⟨h1, h2, h3⟩ := Tr.check_zero.1 h0
    obtain ⟨t, ht⟩ := (Tr.form_iff _).1 h3
    obtain ⟨k, hk⟩ : ∃ k, f.length = k + 1 := ⟨f.length - 1, by omega⟩
    have hw := Tr.form_wf ht
    rw [hk] at hw
    have hd := Lib.hid (refDepth_any A c f (by omega) 1000 (by omega) t k 0 w (by have := wf_deep hw; omega) hw (by omega) HR)
    have hD : Hid (DeepR f (t.deep : Nat)) := .inl ⟨t, ht, h0, rfl⟩
    rw [h0] at hck
    clear hw ht h3 h0 HR
    rw [hk] at hck hd h1 h2 hl ⊢
    clear hk
    go_enter Try.func33, Try.ntmps33
    go_wp2_with (first | (go_at_call 31; refine (hck.out).mono ?_; rintro e w' ⟨rfl, rfl⟩) | (go_at_call 60; refine (hd.out).mono ?_; rintro e w' ⟨rfl, h⟩; have HE := Lib.hid h; clear h))
    go_ret
    exact ⟨⟨_, rfl, hD.out⟩, HE.out⟩
  · have hD : Hid (DeepR f 0) := .inr ⟨h0, rfl⟩
    obtain ⟨v, hv⟩ : ∃ v, v = Tr.check (sg f) f.length := ⟨_, rfl⟩
    rw [← hv] at hck h0
    clear hv
    have hvz : (v == 0) = false := by rw [beq_eq_false_iff_ne]; omega
    have hvz2 : (v != 0) = true := by simpa using h0
    clear h0
    go_enter Try.func33, Try.ntmps33
    go_wp2_with ((go_at_call 31; refine (hck.out).mono ?_; rintro e w' ⟨rfl, rfl⟩))
    go_ret
    exact ⟨⟨_, rfl, hD.out⟩, Chg.refl _ _⟩

def usesN (op : Int) (l : List Nm.Item) : Nat := (l.filter (fun x => x.op == op)).length
theorem usesN_snoc (op : Int) (l : List Nm.Item) (x : Nm.Item) : usesN op (l ++ [x]) = if x.op = op then usesN op l + 1 else usesN op l := by
  unfold usesN
  rw [List.filter_append, List.length_append]
  by_cases h : x.op = op
  · rw [if_pos h]; simp [h]
  · rw [if_neg h]; simp [h]
theorem usesN_le (op : Int) (l : List Nm.Item) : usesN op l ≤ l.length := List.length_filter_le _ _
set_option maxRecDepth 100000 in
set_option maxHeartbeats 2000000 in
theorem refUses_any (w : World) (A : Option Addr) (c : Nat) (f : List Nm.Item) (op : Int) (hl : f.length ≤ maxLen) (hr : Rd w w.heap.size A (cellsI f)) :
    Calls Try.prog 42 #[.slice A f.length c, .int .i64 op] w fun r w' => r = .returned (.int .i64 (usesN op f)) ∧ w = w' := by
  have HR := Lib.hid hr
  clear hr
  unfold maxLen at hl
  go_enter Try.func42, Try.ntmps42
  go_wp2
  go_loopw [6, 5] (fun i n wr => ∃ j : Nat, j ≤ f.length ∧ i = .int .i64 j ∧ n = .int .i64 (usesN op (f.take j) : Nat) ∧ usesN op (f.take j) ≤ j ∧ w = wr) (fun i _ _ => f.length - (intOf i).toNat)
  case atStart => exact ⟨0, Nat.zero_le _, rfl, rfl, by simp [usesN], rfl⟩
  case round =>
    obtain ⟨j, hj, rfl, rfl, hm, rfl⟩ := hrel
    by_cases hlt : j < f.length
    · obtain ⟨x, hx⟩ : ∃ x, f[j]? = some x := ⟨_, List.getElem?_eq_getElem hlt⟩
      obtain ⟨b, o, rfl, hb, c0, _⟩ := item_at HR.out hx
      have htk : Hid (f.take (j + 1) = f.take j ++ [x]) := by
        show _ = _
        obtain ⟨h1, h2⟩ := List.getElem?_eq_some_iff.1 hx
        rw [List.take_succ_eq_append_getElem h1, h2]
      obtain ⟨q, hq⟩ : ∃ q, q = usesN op (f.take j) := ⟨_, rfl⟩
      rw [← hq] at hm ⊢
      replace hq := Lib.hid hq
      clear hx
      by_cases he : x.op = op
      · have hee : (x.op == op) = true := by rw [beq_iff_eq]; exact he
        replace he := Lib.hid he
        go_wp2
        go_roundw
        case rel => exact ⟨j + 1, by omega, by go_num, by rw [htk.out, usesN_snoc, if_pos he.out, ← hq.out]; go_num, by rw [htk.out, usesN_snoc, if_pos he.out, ← hq.out]; omega, by first | trivial | rfl⟩
        case measure => (simp [intOf] <;> omega)
      · have hee : (x.op == op) = false := by rw [beq_eq_false_iff_ne]; exact he
        replace he := Lib.hid he
        go_wp2
        go_roundw
        case rel => exact ⟨j + 1, by omega, by go_num, by rw [htk.out, usesN_snoc, if_neg he.out, ← hq.out], by rw [htk.out, usesN_snoc, if_neg he.out, ← hq.out]; omega, by first | trivial | rfl⟩
        case measure => (simp [intOf] <;> omega)
    · obtain rfl : j = f.length := by omega
      rw [List.take_length] at hm ⊢
      go_wp2
      go_ret
      exact ⟨rfl, rfl⟩
set_option maxRecDepth 100000 in
set_option maxHeartbeats 2000000 in
theorem uses_any (w : World) (A : Option Addr) (c : Nat) (f : List Nm.Item) (op : Int) (hl : f.length ≤ maxLen) (hr : Rd w w.heap.size A (cellsI f)) :
    Calls Try.prog 41 #[.slice A f.length c, .int .i64 op] w fun r w' => r = .returned (.int .i64 (usesN op f)) ∧ Chg (fun _ => False) w w' := by
  have HR := Lib.hid hr
  clear hr
  unfold maxLen at hl
  go_enter Try.func41, Try.ntmps41
  go_wp2
  go_loopw [10, 5] (fun i n wr => ∃ j : Nat, j ≤ f.length ∧ i = .int .i64 j ∧ n = .int .i64 (usesN op (f.take j) : Nat) ∧ usesN op (f.take j) ≤ j ∧ Hid (Chg (fun _ => False) w wr)) (fun i _ _ => f.length - (intOf i).toNat)
  case atStart => exact ⟨0, Nat.zero_le _, rfl, rfl, by simp [usesN], Chg.refl _ _⟩
  case round =>
    obtain ⟨j, hj, rfl, rfl, hm, hC⟩ := hrel
    by_cases hlt : j < f.length
    · obtain ⟨x, hx⟩ : ∃ x, f[j]? = some x := ⟨_, List.getElem?_eq_getElem hlt⟩
      obtain ⟨b1, o1, hA1, hb1, c0, c1, c2, c3, c4, c5, c6, c7, c8⟩ := item_at (HR.out.chg hC.out (Nat.le_refl _) (fun _ h => h.elim)) hx
      subst hA1
      have htk : Hid (f.take (j + 1) = f.take j ++ [x]) := by
        show _ = _
        obtain ⟨h1, h2⟩ := List.getElem?_eq_some_iff.1 hx
        rw [List.take_succ_eq_append_getElem h1, h2]
      obtain ⟨q, hq⟩ : ∃ q, q = usesN op (f.take j) := ⟨_, rfl⟩
      rw [← hq] at hm ⊢
      replace hq := Lib.hid hq
      clear hx
      by_cases he : x.op = op
      · have hee : (x.op == op) = true := by rw [beq_iff_eq]; exact he
        replace he := Lib.hid he
        go_wp2
        go_roundw
        case rel => exact ⟨j + 1, by omega, by go_num, by rw [htk.out, usesN_snoc, if_pos he.out, ← hq.out]; go_num, by rw [htk.out, usesN_snoc, if_pos he.out, ← hq.out]; omega, Lib.hid (hC.out.alloc _)⟩
        case measure => (simp [intOf] <;> omega)
      · have hee : (x.op == op) = false := by rw [beq_eq_false_iff_ne]; exact he
        replace he := Lib.hid he
        go_wp2
        go_roundw
        case rel => exact ⟨j + 1, by omega, by go_num, by rw [htk.out, usesN_snoc, if_neg he.out, ← hq.out], by rw [htk.out, usesN_snoc, if_neg he.out, ← hq.out]; omega, Lib.hid (hC.out.alloc _)⟩
        case measure => (simp [intOf] <;> omega)
    · obtain rfl : j = f.length := by omega
      rw [List.take_length] at hm ⊢
      go_wp2
      go_ret
      exact ⟨rfl, hC.out⟩
end Go.Proofs.Ytpppgnphblbbcaa
