/- Plain mathematics for the table: the sum of a text as a function on numbers; the sum by bits. No program. -/
namespace Tb
theorem xor_mod2 (a b : Nat) : (a ^^^ b) % 2 = if a % 2 ≠ b % 2 then 1 else 0 := by
  have := Nat.xor_mod_two_pow (a := a) (b := b) (n := 1)
  simp only [Nat.pow_one] at this
  rw [this]
  rcases Nat.mod_two_eq_zero_or_one a with h | h <;> rcases Nat.mod_two_eq_zero_or_one b with h' | h' <;> rw [h, h'] <;> simp
theorem xbit (a b k : Nat) : (a ^^^ b) % 2 ^ (k + 1) = (a ^^^ b) % 2 ^ k + (if a / 2 ^ k % 2 ≠ b / 2 ^ k % 2 then 2 ^ k else 0) := by
  rw [Nat.mod_pow_succ, Nat.xor_div_two_pow, xor_mod2]
  split <;> simp
theorem xlow (h c : Nat) (hc : c < 256) : h ^^^ c = h - h % 256 + (h % 256 ^^^ c) := by
  have h1 : (h ^^^ c) / 2 ^ 8 = h / 2 ^ 8 := by
    rw [Nat.xor_div_two_pow]
    rw [show c / 2 ^ 8 = 0 from by omega]; simp
  have h2 : (h ^^^ c) % 2 ^ 8 = (h % 256) ^^^ c := by
    rw [Nat.xor_mod_two_pow]
    rw [show c % 2 ^ 8 = c from by omega]
  have := Nat.div_add_mod (h ^^^ c) (2 ^ 8)
  rw [h1, h2] at this
  omega
/-- The sum of a text: FNV-1a in 32 bits. -/
def stepN (h c : Nat) : Nat := (h ^^^ c) * 16777619 % 4294967296
def sumN (l : List UInt8) : Nat := l.foldl (fun h c => stepN h c.toNat) 2166136261
theorem stepN_lt (h c : Nat) : stepN h c < 4294967296 := by unfold stepN; exact Nat.mod_lt _ (by decide)
theorem fold_lt (l : List UInt8) : ∀ (a : Nat), a < 4294967296 → l.foldl (fun h c => stepN h c.toNat) a < 4294967296 := by
  induction l with
  | nil => intro a ha; exact ha
  | cons x l ih => intro a _; rw [List.foldl_cons]; exact ih _ (stepN_lt _ _)
theorem sumN_lt (l : List UInt8) : sumN l < 4294967296 := by unfold sumN; exact fold_lt l _ (by decide)
theorem fold_snoc (l : List UInt8) (c : UInt8) (a : Nat) : (l ++ [c]).foldl (fun h c => stepN h c.toNat) a = stepN (l.foldl (fun h c => stepN h c.toNat) a) c.toNat := by
  rw [List.foldl_append, List.foldl_cons, List.foldl_nil]
theorem sumN_snoc (l : List UInt8) (c : UInt8) : sumN (l ++ [c]) = stepN (sumN l) c.toNat := by
  unfold sumN; exact fold_snoc l c _
/-- What holds of the round's four numbers behind k rounds: the two halved k times, the power, the xor of the lowest k bits. -/
def Inv (h c k a b p x : Nat) : Prop := a = h / 2 ^ k ∧ b = c / 2 ^ k ∧ p = 2 ^ k ∧ x = (h ^^^ c) % 2 ^ k
theorem inv_zero (h c : Nat) : Inv h c 0 h c 1 0 := ⟨by simp, by simp, by simp, by simp [Nat.mod_one]⟩
theorem inv_bound {h c k a b p x : Nat} (hI : Inv h c k a b p x) (hh : h < 256) (hc : c < 256) (hk : k ≤ 8) : a < 256 ∧ b < 256 ∧ p ≤ 256 ∧ x < 256 := by
  obtain ⟨rfl, rfl, rfl, rfl⟩ := hI
  have h1 := Nat.div_le_self h (2 ^ k)
  have h2 := Nat.div_le_self c (2 ^ k)
  have h3 : 2 ^ k ≤ 2 ^ 8 := Nat.pow_le_pow_right (by omega) hk
  have h4 : h ^^^ c < 2 ^ 8 := Nat.xor_lt_two_pow (by omega) (by omega)
  have h5 := Nat.mod_le (h ^^^ c) (2 ^ k)
  refine ⟨by omega, by omega, by omega, by omega⟩
theorem inv_ne {h c k a b p x : Nat} (hI : Inv h c k a b p x) (hn : a % 2 ≠ b % 2) : Inv h c (k + 1) (a / 2) (b / 2) (p * 2) (x + p) := by
  obtain ⟨rfl, rfl, rfl, rfl⟩ := hI
  refine ⟨by rw [Nat.div_div_eq_div_mul, Nat.pow_succ], by rw [Nat.div_div_eq_div_mul, Nat.pow_succ], by rw [Nat.pow_succ], ?_⟩
  rw [xbit, if_pos hn]
theorem inv_eq {h c k a b p x : Nat} (hI : Inv h c k a b p x) (hn : a % 2 = b % 2) : Inv h c (k + 1) (a / 2) (b / 2) (p * 2) x := by
  obtain ⟨rfl, rfl, rfl, rfl⟩ := hI
  refine ⟨by rw [Nat.div_div_eq_div_mul, Nat.pow_succ], by rw [Nat.div_div_eq_div_mul, Nat.pow_succ], by rw [Nat.pow_succ], ?_⟩
  rw [xbit, if_neg (by simpa using hn)]; rfl
theorem inv_end {h c a b p x : Nat} (hI : Inv (h % 256) c 8 a b p x) (hc : c < 256) : (h - h % 256 + x) * 16777619 % 4294967296 = stepN h c := by
  obtain ⟨_, _, _, rfl⟩ := hI
  have h4 : (h % 256) ^^^ c < 2 ^ 8 := Nat.xor_lt_two_pow (by omega) (by omega)
  unfold stepN
  rw [xlow h c hc, Nat.mod_eq_of_lt h4]

/-- A text's bucket of m. -/
def bkt (m : Nat) (s : ByteArray) : Nat := sumN s.data.toList % m
theorem bkt_lt {m : Nat} (hm : 0 < m) (s : ByteArray) : bkt m s < m := Nat.mod_lt _ hm
/-- The last text ahead of a place that lies in bucket j; -1: none. -/
def lastB (m : Nat) (ts : List ByteArray) (j : Nat) : Nat → Int
  | 0 => -1
  | i + 1 => if bkt m (ts.getD i ByteArray.empty) = j then (i : Int) else lastB m ts j i
theorem lastB_bd (m : Nat) (ts : List ByteArray) (j : Nat) : ∀ k, -1 ≤ lastB m ts j k ∧ lastB m ts j k < (k : Int)
  | 0 => by simp [lastB]
  | k + 1 => by
    have := lastB_bd m ts j k
    unfold lastB; split <;> omega
theorem lastB_none {m : Nat} {ts : List ByteArray} {j : Nat} : ∀ {k : Nat}, lastB m ts j k < 0 → ∀ i, i < k → bkt m (ts.getD i ByteArray.empty) ≠ j
  | 0, _, i, hi => by omega
  | k + 1, h, i, hi => by
    unfold lastB at h
    split at h
    · omega
    · rename_i hne
      rcases Nat.lt_or_ge i k with hlt | hge
      · exact lastB_none h i hlt
      · obtain rfl : i = k := by omega
        exact hne
theorem lastB_some {m : Nat} {ts : List ByteArray} {j : Nat} : ∀ {k : Nat} {i : Nat}, lastB m ts j k = (i : Int) → i < k ∧ bkt m (ts.getD i ByteArray.empty) = j ∧ ∀ i', i < i' → i' < k → bkt m (ts.getD i' ByteArray.empty) ≠ j
  | 0, i, h => by simp [lastB] at h
  | k + 1, i, h => by
    unfold lastB at h
    split at h
    · rename_i he
      obtain rfl : k = i := by omega
      exact ⟨by omega, he, fun i' h1 h2 => by omega⟩
    · rename_i hne
      obtain ⟨h1, h2, h3⟩ := lastB_some h
      refine ⟨by omega, h2, fun i' h4 h5 => ?_⟩
      rcases Nat.lt_or_ge i' k with hlt | hge
      · exact h3 i' h4 hlt
      · obtain rfl : i' = k := by omega
        exact hne
theorem lastB_append (m : Nat) (ts : List ByteArray) (s : ByteArray) (j : Nat) : ∀ k, k ≤ ts.length → lastB m (ts ++ [s]) j k = lastB m ts j k
  | 0, _ => rfl
  | k + 1, h => by
    have hg : (ts ++ [s]).getD k ByteArray.empty = ts.getD k ByteArray.empty := by simp [List.getD, List.getElem?_append_left (show k < ts.length by omega)]
    unfold lastB
    rw [hg, lastB_append m ts s j k (by omega)]
/-- The chains of a table lead from each bucket's head through all its texts. -/
structure Chain (m : Nat) (hs nx : List Int) (ts : List ByteArray) : Prop where
  hsl : hs.length = m
  nxl : nx.length = ts.length
  head : ∀ j, j < m → hs[j]? = some (lastB m ts j ts.length)
  next : ∀ i, i < ts.length → nx[i]? = some (lastB m ts (bkt m (ts.getD i ByteArray.empty)) i)
theorem chain_nil (m : Nat) : Chain m (List.replicate m (-1)) [] [] :=
  ⟨by simp, rfl, fun j hj => by simp [hj, lastB], fun i hi => by simp at hi⟩
theorem chain_add {m : Nat} {hs nx : List Int} {ts : List ByteArray} (h : Chain m hs nx ts) (s : ByteArray) :
    Chain m (hs.set (bkt m s) (ts.length : Int)) (nx ++ [lastB m ts (bkt m s) ts.length]) (ts ++ [s]) := by
  refine ⟨by simp [h.hsl], by simp [h.nxl], fun j hj => ?_, fun i hi => ?_⟩
  · rw [List.length_append, List.length_singleton]
    unfold lastB
    rw [lastB_append m ts s j _ (Nat.le_refl _)]
    have hg : (ts ++ [s]).getD ts.length ByteArray.empty = s := by simp [List.getD]
    rw [hg, List.getElem?_set]
    by_cases e : bkt m s = j
    · subst e; rw [if_pos rfl, if_pos (by rw [h.hsl]; exact hj), if_pos rfl]
    · rw [if_neg e, if_neg e]; exact h.head j hj
  · rw [List.length_append, List.length_singleton] at hi
    rcases Nat.lt_or_ge i ts.length with hlt | hge
    · have hg : (ts ++ [s]).getD i ByteArray.empty = ts.getD i ByteArray.empty := by simp [List.getD, List.getElem?_append_left hlt]
      rw [hg, lastB_append m ts s _ _ (by omega), List.getElem?_append_left (by rw [h.nxl]; exact hlt)]
      exact h.next i hlt
    · obtain rfl : i = ts.length := by omega
      have hg : (ts ++ [s]).getD ts.length ByteArray.empty = s := by simp [List.getD]
      rw [hg, lastB_append m ts s _ _ (Nat.le_refl _), List.getElem?_append_right (by rw [h.nxl]; exact Nat.le_refl _)]
      simp [h.nxl]
/-- Where a text stands in a list; -1: nowhere. -/
def idx (ts : List ByteArray) (s : ByteArray) : Int :=
  match ts.findIdx? (fun t => decide (t = s)) with
  | some i => (i : Int)
  | none => -1
theorem idx_hit {ts : List ByteArray} {s : ByteArray} {k : Nat} (hk : k < ts.length) (he : ts[k] = s) (hno : ∀ j (hj : j < ts.length), j < k → ts[j] ≠ s) : idx ts s = (k : Int) := by
  have : ts.findIdx? (fun t => decide (t = s)) = some k := by
    rw [List.findIdx?_eq_some_iff_getElem]
    refine ⟨hk, by simp [he], fun j hj => ?_⟩
    simpa using hno j (by omega) hj
  unfold idx; rw [this]
theorem idx_miss {ts : List ByteArray} {s : ByteArray} (hno : ∀ j (hj : j < ts.length), ts[j] ≠ s) : idx ts s = -1 := by
  have : ts.findIdx? (fun t => decide (t = s)) = none := by
    rw [List.findIdx?_eq_none_iff]
    intro x hx
    obtain ⟨j, hj, rfl⟩ := List.getElem_of_mem hx
    simpa using hno j hj
  unfold idx; rw [this]
theorem idx_mem {ts : List ByteArray} {s : ByteArray} (h : 0 ≤ idx ts s) : ∃ i : Nat, idx ts s = (i : Int) ∧ ts[i]? = some s := by
  cases hi : ts.findIdx? (fun t => decide (t = s)) with
  | some i =>
    obtain ⟨h1, h2, _⟩ := List.findIdx?_eq_some_iff_getElem.1 hi
    exact ⟨i, by unfold idx; rw [hi], by rw [List.getElem?_eq_getElem h1]; simpa using h2⟩
  | none => unfold idx at h; rw [hi] at h; simp at h
theorem idx_not {ts : List ByteArray} {s : ByteArray} (h : idx ts s < 0) : s ∉ ts ∧ idx ts s = -1 := by
  cases hi : ts.findIdx? (fun t => decide (t = s)) with
  | some i => unfold idx at h; rw [hi] at h; simp at h; omega
  | none =>
    refine ⟨fun hm => ?_, by unfold idx; rw [hi]⟩
    have := (List.findIdx?_eq_none_iff.1 hi) s hm
    simp at this
end Tb
