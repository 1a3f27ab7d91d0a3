/- Plain mathematics of steps: what a maker makes, and what holds of it. No program. -/
import Derived.Test.YtpppgnphblbbcaaBnPlain
import Derived.Test.YtpppgnphblbbcaaTrLaw
namespace No
open Nm (Inst)
structure Stp where
  op : Int
  a : Int
  b : Int
  at_ : Inst
def zI : Inst := ⟨0, 0, 0, 0, 0, 0, 0⟩
def eqI (x y : Inst) : Bool := x.op == y.op && x.la == y.la && x.lnum == y.lnum && x.ra == y.ra && x.rnum == y.rnum && x.n == y.n && x.user == y.user
def eqS (x y : Stp) : Bool := x.op == y.op && x.a == y.a && x.b == y.b && eqI x.at_ y.at_
theorem eqI_iff {x y : Inst} : eqI x y = true ↔ x = y := by
  obtain ⟨a, b, c, d, e, f, g⟩ := x
  obtain ⟨a', b', c', d', e', f', g'⟩ := y
  simp [eqI, and_assoc]
theorem eqS_iff {x y : Stp} : eqS x y = true ↔ x = y := by
  obtain ⟨a, b, c, d⟩ := x
  obtain ⟨a', b', c', d'⟩ := y
  simp [eqS, eqI_iff, and_assoc]
def opAt (L : List Stp) (i : Int) : Int := match L[i.toNat]? with
  | some x => x.op
  | none => 0
def aAt (L : List Stp) (i : Int) : Int := match L[i.toNat]? with
  | some x => x.a
  | none => 0
def put (L : List Stp) (s : Stp) : List Stp × Int :=
  if s.op = 15 ∧ opAt L s.a = 15 then (L, aAt L s.a) else match L.findIdx? (fun x => eqS x s) with
  | some k => (L, (k : Int))
  | none => (L ++ [s], (L.length : Int))
def atomS (x : Inst) : Stp := ⟨x.op, 0, 0, x⟩
def sgn (op a b : Int) : Stp := ⟨op, a, b, zI⟩
def tru : Inst := ⟨1, 0, 0, 0, 0, 0, 0⟩
def pNot (L : List Stp) (a : Int) : List Stp × Int := put L (sgn 15 a 0)
def pNext (L : List Stp) (a : Int) : List Stp × Int := put L (sgn 20 a 0)
def pEver (L : List Stp) (a : Int) : List Stp × Int := put L (sgn 24 a 0)
def pAnd (L : List Stp) (a b : Int) : List Stp × Int := put L (sgn 16 a b)
def pUntil (L : List Stp) (a b : Int) : List Stp × Int := put L (sgn 26 a b)
def pTrue (L : List Stp) : List Stp × Int := put L (atomS tru)
def one (L : List Stp) (op a : Int) : List Stp × Int :=
  if op = 19 then pNot (pNext (pNot L a).1 (pNot L a).2).1 (pNext (pNot L a).1 (pNot L a).2).2
  else if op = 20 then pNext L a
  else if op = 21 then pNot (pEver (pNot L a).1 (pNot L a).2).1 (pEver (pNot L a).1 (pNot L a).2).2
  else if op = 22 then pUntil (pTrue L).1 (pTrue L).2 a
  else if op = 23 then pNot (pUntil (pTrue (pNot L a).1).1 (pTrue (pNot L a).1).2 (pNot L a).2).1 (pUntil (pTrue (pNot L a).1).1 (pTrue (pNot L a).1).2 (pNot L a).2).2
  else if op = 24 then pEver L a
  else pNot L a
def all1 (L : List Stp) (b : Int) : List Stp × Int := pNot L b
def all2 (L : List Stp) (a b : Int) : List Stp × Int := pNot (all1 L b).1 a
def all3 (L : List Stp) (a b : Int) : List Stp × Int := pAnd (all2 L a b).1 (all2 L a b).2 (all1 L b).2
def all4 (L : List Stp) (a b : Int) : List Stp × Int := pUntil (all3 L a b).1 (all1 L b).2 (all3 L a b).2
def all5 (L : List Stp) (a b : Int) : List Stp × Int := pNot (all4 L a b).1 (all4 L a b).2
def all6 (L : List Stp) (a b : Int) : List Stp × Int := pEver (all5 L a b).1 (all1 L b).2
def all7 (L : List Stp) (a b : Int) : List Stp × Int := pNot (all6 L a b).1 (all6 L a b).2
def all (L : List Stp) (a b : Int) : List Stp × Int := pAnd (all7 L a b).1 (all5 L a b).2 (all7 L a b).2
def or1 (L : List Stp) (a b : Int) : List Stp × Int := pNot (pNot L a).1 b
def or2 (L : List Stp) (a b : Int) : List Stp × Int := pAnd (or1 L a b).1 (pNot L a).2 (or1 L a b).2
def im2 (L : List Stp) (a b : Int) : List Stp × Int := pAnd (pNot L b).1 a (pNot L b).2
def two (L : List Stp) (op a b : Int) : List Stp × Int :=
  if op = 17 then pNot (or2 L a b).1 (or2 L a b).2
  else if op = 18 then pNot (im2 L a b).1 (im2 L a b).2
  else if op = 25 then all L a b
  else if op = 26 then pUntil L a b
  else pAnd L a b
/-- One item more: the steps, and the row of the formulas' steps, the last first. -/
def rnd (L : List Stp) (row : List Int) (x : Inst) : List Stp × List Int :=
  if Tr.arity x.op = 1 then (match row with
    | a :: r => ((one L x.op a).1, (one L x.op a).2 :: r)
    | _ => (L, row))
  else if Tr.arity x.op = 2 then (match row with
    | b :: a :: r => ((two L x.op a b).1, (two L x.op a b).2 :: r)
    | _ => (L, row))
  else ((put L (atomS x)).1, (put L (atomS x)).2 :: row)
def upTo (f : List Inst) : Nat → List Stp × List Int
  | 0 => ([], [])
  | n + 1 => match f[n]? with
    | some x => rnd (upTo f n).1 (upTo f n).2 x
    | none => upTo f n
theorem upTo_succ {f : List Inst} {n : Nat} {x : Inst} (h : f[n]? = some x) : upTo f (n + 1) = rnd (upTo f n).1 (upTo f n).2 x := by
  show (match f[n]? with
    | some x => rnd (upTo f n).1 (upTo f n).2 x
    | none => upTo f n) = _
  rw [h]

/-! ### What holds of all that is made -/
def fit (L : List Stp) (i : Nat) (s : Stp) : Prop :=
  (1 ≤ s.op ∧ s.op ≤ 14) ∨ (s.op = 15 ∧ 0 ≤ s.a ∧ s.a < i ∧ opAt L s.a ≠ 15) ∨ ((s.op = 20 ∨ s.op = 24) ∧ 0 ≤ s.a ∧ s.a < i) ∨ ((s.op = 16 ∨ s.op = 26) ∧ 0 ≤ s.a ∧ s.a < i ∧ 0 ≤ s.b ∧ s.b < i)
/-- What may be asked of a maker. -/
def may (L : List Stp) (s : Stp) : Prop :=
  (1 ≤ s.op ∧ s.op ≤ 14) ∨ (s.op = 15 ∧ 0 ≤ s.a ∧ s.a < L.length) ∨ ((s.op = 20 ∨ s.op = 24) ∧ 0 ≤ s.a ∧ s.a < L.length) ∨ ((s.op = 16 ∨ s.op = 26) ∧ 0 ≤ s.a ∧ s.a < L.length ∧ 0 ≤ s.b ∧ s.b < L.length)
def inR (n : Int) : Prop := -9223372036854775808 ≤ n ∧ n ≤ 9223372036854775807
def okI (x : Inst) : Prop := inR x.op ∧ inR x.la ∧ inR x.lnum ∧ inR x.ra ∧ inR x.rnum ∧ inR x.n ∧ inR x.user
def okS (s : Stp) : Prop := inR s.op ∧ inR s.a ∧ inR s.b ∧ okI s.at_
structure Inv (L : List Stp) : Prop where
  fits : ∀ (i : Nat) s, L[i]? = some s → fit L i s
  once : ∀ (i j : Nat) s, L[i]? = some s → L[j]? = some s → i = j
  ok : ∀ s ∈ L, okS s
structure Gr (L : List Stp) (r : List Stp × Int) (k : Nat) : Prop where
  inv : Inv r.1
  pre : L <+: r.1
  lo : 0 ≤ r.2
  hi : r.2 < r.1.length
  few : r.1.length ≤ L.length + k
theorem inv_nil : Inv [] := ⟨fun i s h => by simp at h, fun i j s h => by simp at h, fun s h => by cases h⟩
theorem Gr.len {L : List Stp} {r : List Stp × Int} {k : Nat} (h : Gr L r k) : L.length ≤ r.1.length := h.pre.length_le
theorem Gr.trans {L : List Stp} {r r' : List Stp × Int} {k k' : Nat} (h : Gr L r k) (h' : Gr r.1 r' k') : Gr L r' (k + k') :=
  ⟨h'.inv, h.pre.trans h'.pre, h'.lo, h'.hi, by have := h.few; have := h'.few; omega⟩
theorem Gr.more {L : List Stp} {r : List Stp × Int} {k k' : Nat} (h : Gr L r k) (hk : k ≤ k') : Gr L r k' := ⟨h.inv, h.pre, h.lo, h.hi, by have := h.few; omega⟩
theorem opAt_in {L : List Stp} {i : Int} {s : Stp} (h : L[i.toNat]? = some s) : opAt L i = s.op := by unfold opAt; rw [h]
theorem opAt_more {L M : List Stp} (h : L <+: M) {i : Int} (h0 : 0 ≤ i) (hi : i < L.length) : opAt M i = opAt L i := by
  obtain ⟨t, rfl⟩ := h
  unfold opAt
  rw [List.getElem?_append_left (by omega)]
theorem put_gr {L : List Stp} {s : Stp} (h : Inv L) (hm : may L s) (hs : okS s) : Gr L (put L s) 1 := by
  unfold put
  by_cases h0 : s.op = 15 ∧ opAt L s.a = 15
  · rw [if_pos h0]
    have ha : 0 ≤ s.a ∧ s.a < L.length := by
      rcases hm with h1 | h1 | h1 | h1 <;> omega
    obtain ⟨x, hx⟩ : ∃ x, L[s.a.toNat]? = some x := ⟨_, List.getElem?_eq_getElem (by omega)⟩
    have hxo : x.op = 15 := by rw [← opAt_in hx]; exact h0.2
    have hf := h.fits _ _ hx
    have hxa : 0 ≤ x.a ∧ x.a < (s.a.toNat : Int) := by
      rcases hf with h1 | h1 | h1 | h1 <;> omega
    refine ⟨h, List.prefix_refl _, ?_, ?_, Nat.le_succ _⟩
    · show 0 ≤ aAt L s.a
      unfold aAt; rw [hx]; exact hxa.1
    · show aAt L s.a < L.length
      unfold aAt; rw [hx]; show x.a < L.length; omega
  · rw [if_neg h0]
    cases hk : L.findIdx? (fun x => eqS x s) with
    | some k =>
      have hlt : k < L.length := by
        obtain ⟨h1, _⟩ := List.findIdx?_eq_some_iff_getElem.1 hk
        exact h1
      exact ⟨h, List.prefix_refl _, Int.natCast_nonneg _, by show (k : Int) < L.length; omega, Nat.le_succ _⟩
    | none =>
      have hno : ∀ x ∈ L, x ≠ s := fun x hx e => by
        rw [List.findIdx?_eq_none_iff] at hk
        have := hk x hx
        rw [eqS_iff.2 e] at this; cases this
      have hpre : L <+: L ++ [s] := List.prefix_append _ _
      have hget : ∀ (i : Nat) x, (L ++ [s])[i]? = some x → L[i]? = some x ∨ (i = L.length ∧ x = s) := by
        intro i x hx
        rcases Nat.lt_trichotomy i L.length with h1 | h1 | h1
        · rw [List.getElem?_append_left h1] at hx; exact .inl hx
        · subst h1
          rw [List.getElem?_append_right (Nat.le_refl _)] at hx
          simp at hx
          exact .inr ⟨rfl, hx.symm⟩
        · rw [List.getElem?_eq_none (by simp; omega)] at hx; cases hx
      refine ⟨⟨?_, ?_, ?_⟩, hpre, Int.natCast_nonneg _, ?_, ?_⟩
      · intro i x hx
        rcases hget i x hx with h1 | ⟨rfl, rfl⟩
        · have hil : i < L.length := (List.getElem?_eq_some_iff.1 h1).1
          rcases h.fits i x h1 with h2 | h2 | h2 | h2
          · exact .inl h2
          · refine .inr (.inl ⟨h2.1, h2.2.1, h2.2.2.1, ?_⟩)
            rw [opAt_more hpre h2.2.1 (by omega)]; exact h2.2.2.2
          · exact .inr (.inr (.inl h2))
          · exact .inr (.inr (.inr h2))
        · rcases hm with h2 | h2 | h2 | h2
          · exact .inl h2
          · refine .inr (.inl ⟨h2.1, h2.2.1, h2.2.2, ?_⟩)
            rw [opAt_more hpre h2.2.1 h2.2.2]
            exact fun e => h0 ⟨h2.1, e⟩
          · exact .inr (.inr (.inl h2))
          · exact .inr (.inr (.inr h2))
      · intro i j x hi hj
        rcases hget i x hi with h1 | ⟨h1, e1⟩ <;> rcases hget j x hj with h2 | ⟨h2, e2⟩
        · exact h.once i j x h1 h2
        · exact absurd e2 (hno x (List.mem_of_getElem? h1))
        · exact absurd e1 (hno x (List.mem_of_getElem? h2))
        · omega
      · intro x hx
        rcases List.mem_append.1 hx with h1 | h1
        · exact h.ok x h1
        · rw [List.mem_singleton] at h1; subst h1; exact hs
      · show (L.length : Int) < ((L ++ [s]).length : Int)
        rw [List.length_append, List.length_singleton]; omega
      · show (L ++ [s]).length ≤ L.length + 1
        rw [List.length_append, List.length_singleton]; omega
theorem okS_sgn {L : List Stp} {op a b : Int} (hL : L.length ≤ 1000000) (ho : 0 ≤ op ∧ op ≤ 100) (ha : 0 ≤ a ∧ a < L.length) (hb : 0 ≤ b ∧ b ≤ L.length) : okS (sgn op a b) := by
  refine ⟨?_, ?_, ?_, ?_, ?_, ?_, ?_, ?_, ?_, ?_⟩ <;> (unfold inR; simp only [sgn, zI]; omega)
section
variable {L : List Stp} {a b : Int}
theorem not_gr (h : Inv L) (hL : L.length ≤ 1000000) (ha : 0 ≤ a ∧ a < L.length) : Gr L (pNot L a) 1 := put_gr h (.inr (.inl ⟨rfl, ha⟩)) (okS_sgn hL (by omega) ha (by omega))
theorem next_gr (h : Inv L) (hL : L.length ≤ 1000000) (ha : 0 ≤ a ∧ a < L.length) : Gr L (pNext L a) 1 := put_gr h (.inr (.inr (.inl ⟨.inl rfl, ha⟩))) (okS_sgn hL (by omega) ha (by omega))
theorem ever_gr (h : Inv L) (hL : L.length ≤ 1000000) (ha : 0 ≤ a ∧ a < L.length) : Gr L (pEver L a) 1 := put_gr h (.inr (.inr (.inl ⟨.inr rfl, ha⟩))) (okS_sgn hL (by omega) ha (by omega))
theorem and_gr (h : Inv L) (hL : L.length ≤ 1000000) (ha : 0 ≤ a ∧ a < L.length) (hb : 0 ≤ b ∧ b < L.length) : Gr L (pAnd L a b) 1 := put_gr h (.inr (.inr (.inr ⟨.inl rfl, ha.1, ha.2, hb⟩))) (okS_sgn hL (by omega) ha (by omega))
theorem until_gr (h : Inv L) (hL : L.length ≤ 1000000) (ha : 0 ≤ a ∧ a < L.length) (hb : 0 ≤ b ∧ b < L.length) : Gr L (pUntil L a b) 1 := put_gr h (.inr (.inr (.inr ⟨.inr rfl, ha.1, ha.2, hb⟩))) (okS_sgn hL (by omega) ha (by omega))
theorem true_gr (h : Inv L) : Gr L (pTrue L) 1 := put_gr h (.inl ⟨by decide, by decide⟩) (by refine ⟨?_, ?_, ?_, ?_, ?_, ?_, ?_, ?_, ?_, ?_⟩ <;> (unfold inR; simp only [atomS, tru]; omega))
end
theorem all1_gr {L : List Stp} {b : Int} (h : Inv L) (hL : L.length ≤ 900000) (hb : 0 ≤ b ∧ b < L.length) : Gr L (all1 L b) 1 := not_gr h (by omega) hb
theorem all2_gr {L : List Stp} {a b : Int} (h : Inv L) (hL : L.length ≤ 900000) (ha : 0 ≤ a ∧ a < L.length) (hb : 0 ≤ b ∧ b < L.length) : Gr (all1 L b).1 (all2 L a b) 1 := by
  have g := all1_gr h hL hb; have := g.few; have := g.len
  exact not_gr g.inv (by omega) (by omega)
theorem all3_gr {L : List Stp} {a b : Int} (h : Inv L) (hL : L.length ≤ 900000) (ha : 0 ≤ a ∧ a < L.length) (hb : 0 ≤ b ∧ b < L.length) : Gr (all2 L a b).1 (all3 L a b) 1 := by
  have g := all1_gr h hL hb; have := g.few; have := g.len; have := g.lo; have := g.hi
  have g2 := all2_gr h hL ha hb; have := g2.few; have := g2.len; have := g2.lo; have := g2.hi
  exact and_gr g2.inv (by omega) (by omega) (by omega)
theorem all4_gr {L : List Stp} {a b : Int} (h : Inv L) (hL : L.length ≤ 900000) (ha : 0 ≤ a ∧ a < L.length) (hb : 0 ≤ b ∧ b < L.length) : Gr (all3 L a b).1 (all4 L a b) 1 := by
  have g := all1_gr h hL hb; have := g.few; have := g.len; have := g.lo; have := g.hi
  have g2 := all2_gr h hL ha hb; have := g2.few; have := g2.len
  have g3 := all3_gr h hL ha hb; have := g3.few; have := g3.len; have := g3.lo; have := g3.hi
  exact until_gr g3.inv (by omega) (by omega) (by omega)
theorem all5_gr {L : List Stp} {a b : Int} (h : Inv L) (hL : L.length ≤ 900000) (ha : 0 ≤ a ∧ a < L.length) (hb : 0 ≤ b ∧ b < L.length) : Gr (all4 L a b).1 (all5 L a b) 1 := by
  have := (all1_gr h hL hb).few; have := (all2_gr h hL ha hb).few; have := (all3_gr h hL ha hb).few
  have g4 := all4_gr h hL ha hb; have := g4.few; have := g4.lo; have := g4.hi
  exact not_gr g4.inv (by omega) (by omega)
theorem all6_gr {L : List Stp} {a b : Int} (h : Inv L) (hL : L.length ≤ 900000) (ha : 0 ≤ a ∧ a < L.length) (hb : 0 ≤ b ∧ b < L.length) : Gr (all5 L a b).1 (all6 L a b) 1 := by
  have g := all1_gr h hL hb; have := g.few; have := g.lo; have := g.hi
  have := (all2_gr h hL ha hb).few; have := (all3_gr h hL ha hb).few; have := (all4_gr h hL ha hb).few
  have := (all2_gr h hL ha hb).len; have := (all3_gr h hL ha hb).len; have := (all4_gr h hL ha hb).len
  have g5 := all5_gr h hL ha hb; have := g5.few; have := g5.len
  exact ever_gr g5.inv (by omega) (by omega)
theorem all7_gr {L : List Stp} {a b : Int} (h : Inv L) (hL : L.length ≤ 900000) (ha : 0 ≤ a ∧ a < L.length) (hb : 0 ≤ b ∧ b < L.length) : Gr (all6 L a b).1 (all7 L a b) 1 := by
  have := (all1_gr h hL hb).few; have := (all2_gr h hL ha hb).few; have := (all3_gr h hL ha hb).few; have := (all4_gr h hL ha hb).few; have := (all5_gr h hL ha hb).few
  have g6 := all6_gr h hL ha hb; have := g6.few; have := g6.lo; have := g6.hi
  exact not_gr g6.inv (by omega) (by omega)
theorem all8_gr {L : List Stp} {a b : Int} (h : Inv L) (hL : L.length ≤ 900000) (ha : 0 ≤ a ∧ a < L.length) (hb : 0 ≤ b ∧ b < L.length) : Gr (all7 L a b).1 (all L a b) 1 := by
  have := (all1_gr h hL hb).few; have := (all2_gr h hL ha hb).few; have := (all3_gr h hL ha hb).few; have := (all4_gr h hL ha hb).few; have := (all6_gr h hL ha hb).few
  have g5 := all5_gr h hL ha hb; have := g5.few; have := g5.lo; have := g5.hi
  have := (all6_gr h hL ha hb).len
  have g7 := all7_gr h hL ha hb; have := g7.few; have := g7.len; have := g7.lo; have := g7.hi
  exact and_gr g7.inv (by omega) (by omega) (by omega)
theorem all_gr {L : List Stp} {a b : Int} (h : Inv L) (hL : L.length ≤ 900000) (ha : 0 ≤ a ∧ a < L.length) (hb : 0 ≤ b ∧ b < L.length) : Gr L (all L a b) 8 :=
  (((((((all1_gr h hL hb).trans (all2_gr h hL ha hb)).trans (all3_gr h hL ha hb)).trans (all4_gr h hL ha hb)).trans (all5_gr h hL ha hb)).trans (all6_gr h hL ha hb)).trans (all7_gr h hL ha hb)).trans (all8_gr h hL ha hb)
theorem Gr.in1 {L : List Stp} {r : List Stp × Int} {k : Nat} (g : Gr L r k) {x : Int} (hx : 0 ≤ x ∧ x < L.length) : 0 ≤ x ∧ x < r.1.length := by have := g.len; omega
theorem Gr.res {L : List Stp} {r : List Stp × Int} {k : Nat} (g : Gr L r k) : 0 ≤ r.2 ∧ r.2 < r.1.length := ⟨g.lo, g.hi⟩
theorem one_gr {L : List Stp} {op a : Int} (h : Inv L) (hL : L.length ≤ 900000) (ha : 0 ≤ a ∧ a < L.length) : Gr L (one L op a) 8 := by
  have g1 := not_gr h (by omega) ha
  have f1 := g1.few
  unfold one
  split
  · have g2 := next_gr g1.inv (by omega) g1.res
    have f2 := g2.few
    exact ((g1.trans g2).trans (not_gr g2.inv (by omega) g2.res)).more (by omega)
  split
  · exact (next_gr h (by omega) ha).more (by omega)
  split
  · have g2 := ever_gr g1.inv (by omega) g1.res
    have f2 := g2.few
    exact ((g1.trans g2).trans (not_gr g2.inv (by omega) g2.res)).more (by omega)
  split
  · have g2 := true_gr h
    have f2 := g2.few
    exact (g2.trans (until_gr g2.inv (by omega) g2.res (g2.in1 ha))).more (by omega)
  split
  · have g2 := true_gr g1.inv
    have f2 := g2.few
    have g3 := until_gr g2.inv (by omega) g2.res (g2.in1 g1.res)
    have f3 := g3.few
    exact (((g1.trans g2).trans g3).trans (not_gr g3.inv (by omega) g3.res)).more (by omega)
  split
  · exact (ever_gr h (by omega) ha).more (by omega)
  · exact g1.more (by omega)
theorem or1_gr {L : List Stp} {a b : Int} (h : Inv L) (hL : L.length ≤ 900000) (ha : 0 ≤ a ∧ a < L.length) (hb : 0 ≤ b ∧ b < L.length) : Gr (pNot L a).1 (or1 L a b) 1 := by
  have g1 := not_gr h (by omega) ha
  have f1 := g1.few
  exact not_gr g1.inv (by omega) (g1.in1 hb)
theorem or2_gr {L : List Stp} {a b : Int} (h : Inv L) (hL : L.length ≤ 900000) (ha : 0 ≤ a ∧ a < L.length) (hb : 0 ≤ b ∧ b < L.length) : Gr (or1 L a b).1 (or2 L a b) 1 := by
  have g1 := not_gr h (by omega) ha
  have f1 := g1.few
  have g2 := or1_gr h hL ha hb
  have f2 := g2.few
  exact and_gr g2.inv (by omega) (g2.in1 g1.res) g2.res
theorem im2_gr {L : List Stp} {a b : Int} (h : Inv L) (hL : L.length ≤ 900000) (ha : 0 ≤ a ∧ a < L.length) (hb : 0 ≤ b ∧ b < L.length) : Gr (pNot L b).1 (im2 L a b) 1 := by
  have g1 := not_gr h (by omega) hb
  have f1 := g1.few
  exact and_gr g1.inv (by omega) (g1.in1 ha) g1.res
theorem two_gr {L : List Stp} {op a b : Int} (h : Inv L) (hL : L.length ≤ 900000) (ha : 0 ≤ a ∧ a < L.length) (hb : 0 ≤ b ∧ b < L.length) : Gr L (two L op a b) 8 := by
  unfold two
  split
  · have g1 := not_gr h (by omega) ha
    have f1 := g1.few
    have g2 := or1_gr h hL ha hb
    have f2 := g2.few
    have g3 := or2_gr h hL ha hb
    have f3 := g3.few
    exact (((g1.trans g2).trans g3).trans (not_gr g3.inv (by omega) g3.res)).more (by omega)
  split
  · have g1 := not_gr h (by omega) hb
    have f1 := g1.few
    have g3 := im2_gr h hL ha hb
    have f3 := g3.few
    exact ((g1.trans g3).trans (not_gr g3.inv (by omega) g3.res)).more (by omega)
  split
  · exact all_gr h hL ha hb
  split
  · exact (until_gr h (by omega) ha hb).more (by omega)
  · exact (and_gr h (by omega) ha hb).more (by omega)
end No
