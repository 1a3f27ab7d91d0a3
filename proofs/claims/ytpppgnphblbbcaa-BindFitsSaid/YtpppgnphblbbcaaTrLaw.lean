/- Plain law of formulas as lists of items: counting from the end and rows of trees say the same. No program. -/
import Derived.Test.YtpppgnphblbbcaaTrPlain
namespace Tr
theorem arity_range (op : Int) : arity op = -1 ∨ arity op = 0 ∨ arity op = 1 ∨ arity op = 2 := by
  unfold arity
  (repeat' split) <;> simp
/-- Where the part begins that ends ahead of n, k formulas wanted; -1: nowhere. (f: the signs) -/
def beg (f : Nat → Int) : Int → Nat → Int
  | _, 0 => -1
  | k, i + 1 => if arity (f i) < 0 then -1 else if k + (arity (f i) - 1) = 0 then i else beg f (k + (arity (f i) - 1)) i
/-- The row of trees behind n items. -/
def run (f : Nat → Int) : Nat → Option (List T)
  | 0 => some []
  | n + 1 => match run f n with
    | none => none
    | some row => push row (f n) n
/-- A tree spans the items from lo to hi. -/
def WF (f : Nat → Int) : T → Nat → Nat → Prop
  | .leaf a, lo, hi => a = lo ∧ hi = lo + 1 ∧ arity (f a) = 0
  | .one a x, lo, hi => hi = a + 1 ∧ arity (f a) = 1 ∧ WF f x lo a
  | .two a x y, lo, hi => hi = a + 1 ∧ arity (f a) = 2 ∧ ∃ m, WF f x lo m ∧ WF f y m a
def Row (f : Nat → Int) : List T → Nat → Prop
  | [], n => n = 0
  | t :: r, n => ∃ m, WF f t m n ∧ Row f r m
section
variable {f g : Nat → Int}
theorem WF.lt : ∀ {t : T} {lo hi : Nat}, WF f t lo hi → lo < hi
  | .leaf a, lo, hi, h => by simp only [WF] at h; omega
  | .one a x, lo, hi, h => by simp only [WF] at h; have := WF.lt h.2.2; omega
  | .two a x y, lo, hi, h => by
    simp only [WF] at h
    obtain ⟨h1, h2, m, h3, h4⟩ := h
    have := WF.lt h3; have := WF.lt h4; omega
theorem WF.end_ : ∀ {t : T} {lo hi : Nat}, WF f t lo hi → t.endOf + 1 = hi
  | .leaf a, lo, hi, h => by simp only [WF] at h; simp only [T.endOf]; omega
  | .one a x, lo, hi, h => by simp only [WF] at h; simp only [T.endOf]; omega
  | .two a x y, lo, hi, h => by simp only [WF] at h; simp only [T.endOf]; omega
theorem WF.first_ : ∀ {t : T} {lo hi : Nat}, WF f t lo hi → t.first = lo
  | .leaf a, lo, hi, h => by simp only [WF] at h; simp only [T.first]; omega
  | .one a x, lo, hi, h => by simp only [WF] at h; simp only [T.first]; exact WF.first_ h.2.2
  | .two a x y, lo, hi, h => by
    simp only [WF] at h
    obtain ⟨h1, h2, m, h3, h4⟩ := h
    simp only [T.first]; exact WF.first_ h3
theorem beg_succ (k : Int) (i : Nat) : beg f k (i + 1) = if arity (f i) < 0 then -1 else if k + (arity (f i) - 1) = 0 then (i : Int) else beg f (k + (arity (f i) - 1)) i := rfl
theorem beg_lt : ∀ (n : Nat) (k : Int), beg f k n < n
  | 0, _ => by simp [beg]
  | n + 1, k => by
    rw [beg_succ]
    split
    · omega
    · split
      · omega
      · have := beg_lt n (k + (arity (f n) - 1)); omega
theorem beg_ge : ∀ (n : Nat) (k : Int), -1 ≤ beg f k n
  | 0, _ => by simp [beg]
  | n + 1, k => by
    rw [beg_succ]
    split
    · omega
    · split
      · omega
      · exact beg_ge n _
theorem WF.beg : ∀ {t : T} {lo hi : Nat}, WF f t lo hi → ∀ k : Int, 1 ≤ k → Tr.beg f k hi = if k = 1 then (lo : Int) else Tr.beg f (k - 1) lo
  | .leaf a, lo, hi, h => fun k hk => by
    simp only [WF] at h
    obtain ⟨rfl, rfl, h3⟩ := h
    rw [beg_succ, h3, if_neg (by omega)]
    by_cases h1 : k = 1
    · subst h1; simp
    · rw [if_neg (by omega), if_neg h1]; congr 1
  | .one a x, lo, hi, h => fun k hk => by
    simp only [WF] at h
    obtain ⟨rfl, h2, h3⟩ := h
    rw [beg_succ, h2, if_neg (by omega), if_neg (by omega), ← WF.beg h3 k hk]
    congr 1; omega
  | .two a x y, lo, hi, h => fun k hk => by
    simp only [WF] at h
    obtain ⟨rfl, h2, m, h3, h4⟩ := h
    rw [beg_succ, h2, if_neg (by omega), if_neg (by omega), WF.beg h4 _ (by omega), if_neg (by omega), ← WF.beg h3 k hk]
    congr 1; omega
theorem run_succ (n : Nat) : run f (n + 1) = match run f n with
    | none => none
    | some row => push row (f n) n := rfl
theorem push_row {row r : List T} {n : Nat} (h : Row f row n) (hp : push row (f n) n = some r) : Row f r (n + 1) := by
  unfold push at hp
  split at hp
  · rename_i h0
    injection hp with hp; subst hp
    exact ⟨n, ⟨rfl, rfl, h0⟩, h⟩
  · split at hp
    · rename_i h0
      split at hp
      · injection hp with hp; subst hp
        obtain ⟨m, h1, h2⟩ := h
        exact ⟨m, ⟨rfl, h0, h1⟩, h2⟩
      · cases hp
    · split at hp
      · rename_i h0
        split at hp
        · injection hp with hp; subst hp
          obtain ⟨m, h1, m2, h2, h3⟩ := h
          exact ⟨m2, ⟨rfl, h0, m, h2, h1⟩, h3⟩
        · cases hp
      · cases hp
theorem run_row : ∀ {n : Nat} {row : List T}, run f n = some row → Row f row n
  | 0, row, h => by injection h with h; subst h; rfl
  | n + 1, row, h => by
    rw [run_succ] at h
    split at h
    · cases h
    · rename_i row' hr
      exact push_row (run_row hr) h
theorem push_len {row : List T} {op : Int} {n : Nat} {k : Int} (hk : 1 ≤ k) (ha : 0 ≤ arity op) (hl : (row.length : Int) = k + (arity op - 1)) : ∃ r, push row op n = some r ∧ (r.length : Int) = k := by
  unfold push
  rcases arity_range op with h | h | h | h
  · omega
  · rw [if_pos h]; exact ⟨_, rfl, by rw [List.length_cons]; omega⟩
  · rw [if_neg (by omega), if_pos h]
    match row, hl with
    | [], hl => simp at hl; omega
    | x :: r, hl => exact ⟨_, rfl, by rw [List.length_cons] at hl ⊢; omega⟩
  · rw [if_neg (by omega), if_neg (by omega), if_pos h]
    match row, hl with
    | [], hl => simp at hl; omega
    | [x], hl => simp at hl; omega
    | x :: y :: r, hl => exact ⟨_, rfl, by rw [List.length_cons, List.length_cons] at hl; rw [List.length_cons]; omega⟩
theorem beg_run : ∀ (n : Nat) (k : Int), 1 ≤ k → beg f k n = 0 → ∃ row, run f n = some row ∧ (row.length : Int) = k
  | 0, k, _, h => by simp [beg] at h
  | n + 1, k, hk, h => by
    rw [beg_succ] at h
    split at h
    · omega
    · rename_i h0
      split at h
      · rename_i h1
        have hn : n = 0 := by omega
        subst hn
        obtain ⟨r, h2, h3⟩ := push_len (row := []) (op := f 0) (n := 0) hk (by omega) (by simp; omega)
        exact ⟨r, by rw [run_succ]; exact h2, h3⟩
      · obtain ⟨row, h2, h3⟩ := beg_run n _ (by omega) h
        obtain ⟨r, h4, h5⟩ := push_len (op := f n) (n := n) hk (by omega) h3
        exact ⟨r, by rw [run_succ, h2]; exact h4, h5⟩
/-- A list is a formula: its tree, and the count from its end, say it alike. -/
theorem form_iff (n : Nat) : beg f 1 n = 0 ↔ ∃ t, run f n = some [t] := by
  refine ⟨fun h => ?_, fun ⟨t, h⟩ => ?_⟩
  · obtain ⟨row, h1, h2⟩ := beg_run n 1 (by omega) h
    match row, h2 with
    | [], h2 => simp at h2
    | [t], _ => exact ⟨t, h1⟩
    | _ :: _ :: _, h2 => simp only [List.length_cons] at h2; omega
  · obtain ⟨m, h1, h2⟩ := run_row h
    have h2 : m = 0 := h2
    subst h2
    rw [h1.beg 1 (by omega)]; simp
theorem form_wf {n : Nat} {t : T} (h : run f n = some [t]) : WF f t 0 n := by
  obtain ⟨m, h1, h2⟩ := run_row h
  have h2 : m = 0 := h2
  subst h2
  exact h1
/-- The part that an item ends. -/
def T.find (at_ : Int) : T → Option T
  | .leaf a => if (a : Int) = at_ then some (.leaf a) else none
  | .one a x => if (a : Int) = at_ then some (.one a x) else x.find at_
  | .two a x y => if (a : Int) = at_ then some (.two a x y) else if at_ > a then none else if at_ ≤ x.endOf then x.find at_ else y.find at_
def T.kids : T → List Nat
  | .leaf _ => []
  | .one _ x => [x.endOf]
  | .two _ x y => [x.endOf, y.endOf]
theorem WF.find : ∀ {t : T} {lo hi : Nat}, WF f t lo hi → ∀ a : Nat, lo ≤ a → a < hi → ∃ s b, t.find a = some s ∧ lo ≤ b ∧ WF f s b (a + 1)
  | .leaf c, lo, hi, h => fun a h1 h2 => by
    simp only [WF] at h
    obtain ⟨rfl, rfl, h3⟩ := h
    obtain rfl : a = c := by omega
    exact ⟨.leaf a, a, by simp [T.find], Nat.le_refl _, ⟨rfl, rfl, h3⟩⟩
  | .one c x, lo, hi, h => fun a h1 h2 => by
    have hw := h
    simp only [WF] at h
    obtain ⟨rfl, h3, h4⟩ := h
    by_cases hc : c = a
    · subst hc
      exact ⟨.one c x, lo, by simp [T.find], Nat.le_refl _, hw⟩
    · obtain ⟨s, b, h5, h6, h7⟩ := WF.find h4 a h1 (by omega)
      exact ⟨s, b, by simp only [T.find]; rw [if_neg (by omega)]; exact h5, h6, h7⟩
  | .two c x y, lo, hi, h => fun a h1 h2 => by
    have hw := h
    simp only [WF] at h
    obtain ⟨rfl, h3, m, h4, h5⟩ := h
    by_cases hc : c = a
    · subst hc
      exact ⟨.two c x y, lo, by simp [T.find], Nat.le_refl _, hw⟩
    · have he := h4.end_
      have hl := h4.lt
      by_cases hx : a < m
      · obtain ⟨s, b, h6, h7, h8⟩ := WF.find h4 a h1 hx
        exact ⟨s, b, by simp only [T.find]; rw [if_neg (by omega), if_neg (by omega), if_pos (by omega)]; exact h6, h7, h8⟩
      · obtain ⟨s, b, h6, h7, h8⟩ := WF.find h5 a (by omega) (by omega)
        exact ⟨s, b, by simp only [T.find]; rw [if_neg (by omega), if_neg (by omega), if_neg (by omega)]; exact h6, by omega, h8⟩
theorem WF.beg1 {t : T} {lo hi : Nat} (h : WF f t lo hi) : Tr.beg f 1 hi = lo := by rw [h.beg 1 (by omega)]; simp
/-- Parts lie within one another, or apart. -/
theorem WF.nests {s u : T} {p q a b : Nat} (h1 : WF f s p (a + 1)) (h2 : WF f u q (b + 1)) (hab : a ≤ b) : q ≤ p ∨ q > a := by
  by_cases hq : q ≤ a
  · obtain ⟨v, c, _, h4, h5⟩ := h2.find a hq (by omega)
    have e1 := h5.beg1
    have e2 := h1.beg1
    omega
  · omega
theorem beg_shift (p : Nat) : ∀ (i : Nat) (k : Int), 1 ≤ k → beg f k (p + i) = p → beg (fun j => f (p + j)) k i = 0
  | 0, k, _, h => by have := beg_lt (f := f) p k; rw [Nat.add_zero] at h; omega
  | i + 1, k, hk, h => by
    rw [← Nat.add_assoc, beg_succ] at h
    rw [beg_succ]
    split at h
    · omega
    · rename_i h0
      rw [if_neg h0]
      split at h
      · rename_i h1
        rw [if_pos h1]; omega
      · rename_i h1
        rw [if_neg h1]
        exact beg_shift p i _ (by omega) h
theorem beg_congr : ∀ (n : Nat) (k : Int), (∀ i, i < n → f i = g i) → beg f k n = beg g k n
  | 0, _, _ => rfl
  | n + 1, k, h => by rw [beg_succ, beg_succ, h n (by omega), beg_congr n _ (fun i hi => h i (by omega))]
/-- A formula that stands within a list. -/
theorem beg_within (s : Nat) : ∀ (n : Nat) (j k : Int), 1 ≤ j → j ≤ k → beg f j n = 0 → (∀ i, i < n → g (s + i) = f i) → beg g k (s + n) = if k = j then (s : Int) else beg g (k - j) s
  | 0, j, k, _, _, h, _ => by simp [beg] at h
  | n + 1, j, k, hj, hk, h, hg => by
    rw [beg_succ] at h
    rw [← Nat.add_assoc, beg_succ, hg n (by omega)]
    split at h
    · omega
    · rename_i h0
      rw [if_neg h0]
      split at h
      · rename_i h1
        have hn : n = 0 := by omega
        subst hn
        by_cases hkj : k = j
        · rw [if_pos (by omega), if_pos hkj]; simp
        · rw [if_neg (by omega), if_neg hkj, Nat.add_zero]
          congr 1; omega
      · rename_i h1
        rw [if_neg (by omega), beg_within s n _ _ (by omega) (by omega) h (fun i hi => hg i (by omega))]
        by_cases hkj : k = j
        · rw [if_pos (by omega), if_pos hkj]
        · rw [if_neg (by omega), if_neg hkj]
          congr 1; omega
end
/-- Kids by counting. -/
def kidsB (f : Nat → Int) (e : Nat) : List Int := if arity (f e) = 0 then [] else if arity (f e) = 1 then [(e : Int) - 1] else [beg f 1 e - 1, (e : Int) - 1]
theorem WF.kids {f : Nat → Int} : ∀ {t : T} {lo a : Nat}, WF f t lo (a + 1) → kidsB f a = t.kids.map (fun (n : Nat) => (n : Int))
  | .leaf c, lo, a, h => by
    simp only [WF] at h
    obtain ⟨rfl, h2, h3⟩ := h
    obtain rfl : a = c := by omega
    unfold kidsB; rw [if_pos h3]; rfl
  | .one c x, lo, a, h => by
    simp only [WF] at h
    obtain ⟨h2, h3, h4⟩ := h
    obtain rfl : a = c := by omega
    have := h4.end_
    unfold kidsB; rw [if_neg (by omega), if_pos h3]
    simp only [T.kids, List.map_cons, List.map_nil, List.cons.injEq, and_true]; omega
  | .two c x y, lo, a, h => by
    simp only [WF] at h
    obtain ⟨h2, h3, m, h4, h5⟩ := h
    obtain rfl : a = c := by omega
    have := h4.end_
    have := h5.end_
    unfold kidsB; rw [if_neg (by omega), if_neg (by omega), h5.beg1]
    simp only [T.kids, List.map_cons, List.map_nil, List.cons.injEq, and_true]; omega
/-- What the whole check answers: 12 none, 3 too long, 17 no formula. -/
def check (f : Nat → Int) (n : Nat) : Int := if n = 0 then 12 else if 64 < n then 3 else if beg f 1 n = 0 then 0 else 17
theorem check_zero {f : Nat → Int} {n : Nat} : check f n = 0 ↔ 0 < n ∧ n ≤ 64 ∧ beg f 1 n = 0 := by
  unfold check
  (repeat' split) <;> (refine ⟨fun h => ?_, fun h => ?_⟩ <;> first | omega | (refine ⟨?_, ?_, ?_⟩ <;> omega))
end Tr
