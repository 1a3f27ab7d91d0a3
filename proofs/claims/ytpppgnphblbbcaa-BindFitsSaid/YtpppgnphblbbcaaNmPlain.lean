/- Plain mathematics of statements and their names: counts, first places, what is wrong first; what a table of names holds. No program. -/
namespace Nm
/-- What is read of a statement: its kind, its name, its place. -/
structure Stm where
  kind : Int
  name : ByteArray
  line : Int
  col : Int
def isNamed (k : Int) : Bool := k != 6 && k != 8
def known (k : Int) : Bool := decide (1 ≤ k) && decide (k ≤ 8)
def most (k : Int) : Int := if k = 1 then 5 else if k = 2 then 4 else if k = 3 then 4 else if k = 4 then 8 else if k = 5 then 6 else if k = 6 then 12 else if k = 7 then 8 else 6
theorem most_bd (k : Int) : 4 ≤ most k ∧ most k ≤ 12 := by unfold most; repeat' split <;> omega
def ahead (l : List Stm) (k : Int) : Nat := l.countP (fun x => decide (x.kind = k))
theorem ahead_nil (k : Int) : ahead [] k = 0 := rfl
theorem ahead_snoc (l : List Stm) (x : Stm) (k : Int) : ahead (l ++ [x]) k = ahead l k + if x.kind = k then 1 else 0 := by
  unfold ahead; rw [List.countP_append]; simp
theorem ahead_le (l : List Stm) (k : Int) : ahead l k ≤ l.length := List.countP_le_length
def hit (name : ByteArray) (x : Stm) : Bool := isNamed x.kind && decide (x.name = name)
/-- The first statement that has the name. -/
def find (l : List Stm) (name : ByteArray) : Option Nat := l.findIdx? (hit name)
def bad (l : List Stm) (x : Stm) : Int :=
  if known x.kind = false then 8 else if most x.kind ≤ (ahead l x.kind : Int) then 3 else if isNamed x.kind = true ∧ (find l x.name).isSome = true then 6 else 0
theorem bad_bd (l : List Stm) (x : Stm) : 0 ≤ bad l x ∧ bad l x ≤ 8 := by unfold bad; repeat' split <;> omega
/-- What is wrong first behind the statements of pre; all 0: nothing. -/
def checkFrom (pre : List Stm) : List Stm → Int × Int × Int
  | [] => (0, 0, 0)
  | x :: r => if bad pre x = 0 then checkFrom (pre ++ [x]) r else (bad pre x, x.line, x.col)
def check (l : List Stm) : Int × Int × Int := checkFrom [] l
/-- The statements may be. -/
def Fine (l : List Stm) : Prop := ∀ i (h : i < l.length), bad (l.take i) l[i] = 0
theorem fine_nil : Fine [] := fun i h => by simp at h
theorem fine_snoc {l : List Stm} {x : Stm} (h : Fine l) (hx : bad l x = 0) : Fine (l ++ [x]) := by
  intro i hi
  rw [List.length_append, List.length_singleton] at hi
  rcases Nat.lt_or_ge i l.length with hlt | hge
  · rw [List.take_append_of_le_length (by omega), List.getElem_append_left hlt]
    exact h i hlt
  · obtain rfl : i = l.length := by omega
    rw [List.take_left, List.getElem_append_right (Nat.le_refl _)]
    simpa using hx
theorem checkFrom_fine : ∀ (r pre : List Stm), (∀ i (h : i < r.length), bad (pre ++ r.take i) r[i] = 0) → checkFrom pre r = (0, 0, 0)
  | [], _, _ => rfl
  | x :: r, pre, h => by
    have h0 : bad pre x = 0 := by
      have := h 0 (by simp)
      rw [List.take_zero, List.append_nil] at this
      exact this
    unfold checkFrom
    rw [if_pos h0]
    refine checkFrom_fine r (pre ++ [x]) fun i hi => ?_
    rw [List.append_assoc]
    exact h (i + 1) (by simpa using hi)
theorem check_fine {l : List Stm} (h : Fine l) : check l = (0, 0, 0) := checkFrom_fine l [] (fun i hi => by rw [List.nil_append]; exact h i hi)
theorem checkFrom_bad : ∀ (r pre : List Stm) (k : Nat) (hk : k < r.length), (∀ i (h : i < r.length), i < k → bad (pre ++ r.take i) r[i] = 0) → bad (pre ++ r.take k) r[k] ≠ 0 → checkFrom pre r = (bad (pre ++ r.take k) r[k], r[k].line, r[k].col)
  | [], _, k, hk, _, _ => by simp at hk
  | x :: r, pre, 0, _, _, hb => by
    have hb : bad pre x ≠ 0 := by simpa using hb
    unfold checkFrom
    rw [if_neg hb]
    simp
  | x :: r, pre, k + 1, hk, h, hb => by
    have h0 : bad pre x = 0 := by
      have := h 0 (by simp) (by omega)
      rw [List.take_zero, List.append_nil] at this
      exact this
    unfold checkFrom
    rw [if_pos h0]
    have h2 := checkFrom_bad r (pre ++ [x]) k (by simpa using hk) (fun i hi hik => by rw [List.append_assoc]; exact h (i + 1) (by simpa using hi) (by omega)) (by rw [List.append_assoc]; exact hb)
    rw [List.append_assoc] at h2
    exact h2
theorem check_bad {l : List Stm} {k : Nat} (hk : k < l.length) (h : Fine (l.take k)) (hb : bad (l.take k) l[k] ≠ 0) : check l = (bad (l.take k) l[k], l[k].line, l[k].col) := by
  refine checkFrom_bad l [] k hk (fun i hi hik => ?_) hb
  · have hf := h i (by rw [List.length_take]; omega)
    rw [List.take_take, Nat.min_eq_left (by omega), List.getElem_take] at hf
    exact hf
theorem bad_zero {l : List Stm} {x : Stm} (h : bad l x = 0) : known x.kind = true ∧ (ahead l x.kind : Int) < most x.kind ∧ (isNamed x.kind = true → find l x.name = none) := by
  unfold bad at h
  split at h
  · omega
  · rename_i h1
    split at h
    · omega
    · rename_i h2
      split at h
      · omega
      · rename_i h3
        refine ⟨by simpa using h1, by omega, fun hn => ?_⟩
        cases hf : find l x.name with
        | none => rfl
        | some i => exact absurd ⟨hn, by rw [hf]; rfl⟩ h3
/-- What a table of names holds of statements: each name, with its kind, and how many of that kind stand ahead. -/
def ent (l : List Stm) (i : Nat) : Option (ByteArray × Int × Nat) :=
  match l[i]? with
  | some x => if isNamed x.kind = true then some (x.name, x.kind, ahead (l.take i) x.kind) else none
  | none => none
def ents (l : List Stm) : List (ByteArray × Int × Nat) := (List.range l.length).filterMap (ent l)
theorem fm_congr {α β : Type} {f g : α → Option β} : ∀ l : List α, (∀ x ∈ l, f x = g x) → l.filterMap f = l.filterMap g
  | [], _ => rfl
  | x :: l, h => by
    rw [List.filterMap_cons, List.filterMap_cons, h x List.mem_cons_self, fm_congr l fun y hy => h y (List.mem_cons_of_mem _ hy)]
theorem ents_nil : ents [] = [] := rfl
theorem ents_snoc (l : List Stm) (x : Stm) : ents (l ++ [x]) = ents l ++ (if isNamed x.kind = true then [(x.name, x.kind, ahead l x.kind)] else []) := by
  unfold ents
  rw [List.length_append, List.length_singleton, List.range_succ, List.filterMap_append]
  congr 1
  · refine fm_congr _ fun i hi => ?_
    have hi : i < l.length := List.mem_range.1 hi
    unfold ent
    rw [List.getElem?_append_left hi, List.take_append_of_le_length (by omega)]
  · simp only [List.filterMap_cons, List.filterMap_nil, ent, List.getElem?_concat_length, List.take_left]
    split <;> rename_i h
    · split at h
      · cases h
      · rename_i h'; rw [if_neg h']
    · split at h
      · rename_i h'; rw [if_pos h']; injection h with h; rw [h]
      · cases h
theorem ents_mem {l : List Stm} {n : ByteArray} {k : Int} {c : Nat} : (n, k, c) ∈ ents l ↔ ∃ i, ∃ (h : i < l.length), isNamed l[i].kind = true ∧ l[i].name = n ∧ l[i].kind = k ∧ ahead (l.take i) k = c := by
  unfold ents
  rw [List.mem_filterMap]
  constructor
  · rintro ⟨i, hi, he⟩
    have hi : i < l.length := List.mem_range.1 hi
    unfold ent at he
    rw [List.getElem?_eq_getElem hi] at he
    dsimp only at he
    split at he
    · rename_i hn
      injection he with he
      simp only [Prod.mk.injEq] at he
      obtain ⟨h1, h2, h3⟩ := he
      exact ⟨i, hi, hn, h1, h2, by rw [← h2]; exact h3⟩
    · cases he
  · rintro ⟨i, hi, hn, h1, h2, h3⟩
    refine ⟨i, List.mem_range.2 hi, ?_⟩
    unfold ent
    rw [List.getElem?_eq_getElem hi]
    dsimp only
    rw [if_pos hn, h1, h2, h3]
/-- The names of a kind, in their order. -/
def namesOf (l : List Stm) (k : Int) : List ByteArray := (l.filter (fun x => decide (x.kind = k) && isNamed k)).map (·.name)
theorem namesOf_snoc (l : List Stm) (x : Stm) (k : Int) : namesOf (l ++ [x]) k = namesOf l k ++ (if x.kind = k ∧ isNamed k = true then [x.name] else []) := by
  unfold namesOf
  rw [List.filter_append, List.map_append]
  congr 1
  by_cases h1 : x.kind = k <;> cases h2 : isNamed k <;> simp [h1]
theorem namesOf_len {l : List Stm} {k : Int} (h : isNamed k = true) : (namesOf l k).length = ahead l k := by
  unfold namesOf ahead
  rw [List.length_map, List.countP_eq_length_filter, h]
  simp
theorem namesOf_none {l : List Stm} {k : Int} (h : isNamed k = false) : namesOf l k = [] := by
  unfold namesOf; rw [h]; simp
/-- Where the first statement with the name stands; -1: nowhere. -/
def findI (l : List Stm) (name : ByteArray) : Int := match find l name with
  | some i => (i : Int)
  | none => -1
theorem findI_hit {l : List Stm} {name : ByteArray} {k : Nat} (hk : k < l.length) (he : hit name l[k] = true) (hno : ∀ j (hj : j < l.length), j < k → hit name l[j] = false) : findI l name = (k : Int) := by
  have : find l name = some k := by
    unfold find
    rw [List.findIdx?_eq_some_iff_getElem]
    exact ⟨hk, he, fun j hj => by rw [hno j (by omega) hj]; simp⟩
  unfold findI; rw [this]
theorem findI_miss {l : List Stm} {name : ByteArray} (hno : ∀ j (hj : j < l.length), hit name l[j] = false) : findI l name = -1 := by
  have : find l name = none := by
    unfold find
    rw [List.findIdx?_eq_none_iff]
    intro x hx
    obtain ⟨j, hj, rfl⟩ := List.getElem_of_mem hx
    exact hno j hj
  unfold findI; rw [this]
theorem find_some {l : List Stm} {name : ByteArray} {k : Nat} (h : find l name = some k) : ∃ (hk : k < l.length), hit name l[k] = true ∧ ∀ j (hj : j < l.length), j < k → hit name l[j] = false := by
  unfold find at h
  obtain ⟨h1, h2, h3⟩ := List.findIdx?_eq_some_iff_getElem.1 h
  exact ⟨h1, h2, fun j hj hjk => by simpa using h3 j hjk⟩
theorem find_none {l : List Stm} {name : ByteArray} (h : find l name = none) : ∀ j (hj : j < l.length), hit name l[j] = false := by
  unfold find at h
  intro j hj
  have := (List.findIdx?_eq_none_iff.1 h) _ (List.getElem_mem hj)
  simpa using this
theorem hit_true {name : ByteArray} {x : Stm} : hit name x = true ↔ isNamed x.kind = true ∧ x.name = name := by unfold hit; simp
theorem findI_hit' {l : List Stm} {name : ByteArray} {k : Nat} {x : Stm} (hk : l[k]? = some x) (he : hit name x = true) (hno : ∀ j y, j < k → l[j]? = some y → hit name y = false) : findI l name = (k : Int) := by
  obtain ⟨h1, rfl⟩ := List.getElem?_eq_some_iff.1 hk
  exact findI_hit h1 he fun j hj hjk => hno j _ hjk (List.getElem?_eq_getElem hj)
theorem findI_miss' {l : List Stm} {name : ByteArray} (hno : ∀ (j : Nat) y, l[j]? = some y → hit name y = false) : findI l name = -1 :=
  findI_miss fun j hj => hno j _ (List.getElem?_eq_getElem hj)
theorem check_bad' {l : List Stm} {k : Nat} {x : Stm} (hx : l[k]? = some x) (h : Fine (l.take k)) (hb : bad (l.take k) x ≠ 0) : check l = (bad (l.take k) x, x.line, x.col) := by
  obtain ⟨hk, rfl⟩ := List.getElem?_eq_some_iff.1 hx
  exact check_bad hk h hb
theorem fine_next {l : List Stm} {k : Nat} {x : Stm} (hx : l[k]? = some x) (h : Fine (l.take k)) (hb : bad (l.take k) x = 0) : Fine (l.take (k + 1)) := by
  obtain ⟨hk, rfl⟩ := List.getElem?_eq_some_iff.1 hx
  rw [List.take_succ_eq_append_getElem hk]
  exact fine_snoc h hb
theorem bad_kind {l : List Stm} {x : Stm} (h : x.kind < 1 ∨ 8 < x.kind) : bad l x = 8 := by
  unfold bad known
  rw [if_pos (by rcases h with h | h <;> simp <;> omega)]
theorem bad_long {l : List Stm} {x : Stm} (h1 : known x.kind = true) (h : most x.kind ≤ (ahead l x.kind : Int)) : bad l x = 3 := by
  unfold bad; rw [if_neg (by rw [h1]; simp), if_pos h]
theorem bad_twice {l : List Stm} {x : Stm} (h1 : known x.kind = true) (h : ¬ most x.kind ≤ (ahead l x.kind : Int)) (hn : isNamed x.kind = true) (hf : 0 ≤ findI l x.name) : bad l x = 6 := by
  have : (find l x.name).isSome = true := by
    unfold findI at hf
    cases h : find l x.name with
    | some i => rfl
    | none => rw [h] at hf; simp at hf
  unfold bad; rw [if_neg (by rw [h1]; simp), if_neg h, if_pos ⟨hn, this⟩]
theorem bad_none {l : List Stm} {x : Stm} (h1 : known x.kind = true) (h : ¬ most x.kind ≤ (ahead l x.kind : Int)) (hn : isNamed x.kind = true → findI l x.name < 0) : bad l x = 0 := by
  unfold bad; rw [if_neg (by rw [h1]; simp), if_neg h, if_neg]
  rintro ⟨h2, h3⟩
  have := hn h2
  unfold findI at this
  cases hf : find l x.name with
  | some i => rw [hf] at this; simp at this; omega
  | none => rw [hf] at h3; simp at h3
theorem findI_bd (l : List Stm) (name : ByteArray) : -1 ≤ findI l name ∧ findI l name < l.length := by
  unfold findI
  cases hf : find l name with
  | some i => obtain ⟨h, _⟩ := find_some hf; dsimp only; omega
  | none => dsimp only; omega
/-- The number of a name that must be of a kind, of statements that may be; and what is wrong. -/
def need (l : List Stm) (name : ByteArray) (kind : Int) : Int × Int :=
  match find l name with
  | none => (0, 7)
  | some i => match l[i]? with
    | none => (0, 7)
    | some x => if x.kind = kind then ((ahead (l.take i) kind : Nat), 0) else (0, 8)
theorem need_none {l : List Stm} {name : ByteArray} {kind : Int} (h : findI l name < 0) : need l name kind = (0, 7) := by
  unfold findI at h; unfold need
  cases hf : find l name with
  | none => rfl
  | some i => rw [hf] at h; simp at h; omega
theorem find_of_findI {l : List Stm} {name : ByteArray} {i : Nat} (h : findI l name = (i : Int)) : find l name = some i := by
  unfold findI at h
  cases hf : find l name with
  | none => rw [hf] at h; dsimp only at h; omega
  | some j => rw [hf] at h; dsimp only at h; rw [show j = i from by omega]
theorem need_some {l : List Stm} {name : ByteArray} {kind : Int} {i : Nat} {x : Stm} (h : findI l name = (i : Int)) (hx : l[i]? = some x) : need l name kind = if x.kind = kind then (((ahead (l.take i) kind : Nat) : Int), 0) else (0, 8) := by
  unfold need; rw [find_of_findI h]; dsimp only; rw [hx]
theorem findI_get {l : List Stm} {name : ByteArray} {i : Nat} (h : findI l name = (i : Int)) : ∃ x, l[i]? = some x ∧ isNamed x.kind = true ∧ x.name = name := by
  obtain ⟨hk, hh, _⟩ := find_some (find_of_findI h)
  exact ⟨l[i], List.getElem?_eq_getElem hk, hit_true.1 hh⟩
theorem findI_neg {l : List Stm} {name : ByteArray} (h : findI l name < 0) : ∀ (j : Nat) y, l[j]? = some y → hit name y = false := by
  intro j y hy
  obtain ⟨hj, rfl⟩ := List.getElem?_eq_some_iff.1 hy
  unfold findI at h
  cases hf : find l name with
  | none => exact find_none hf j hj
  | some i => rw [hf] at h; simp at h; omega
/-- Among statements that may be no two have one name. -/
theorem fine_one {l : List Stm} (h : Fine l) {i j : Nat} {x y : Stm} (hx : l[i]? = some x) (hy : l[j]? = some y) (nx : isNamed x.kind = true) (ny : isNamed y.kind = true) (he : x.name = y.name) : i = j := by
  have key : ∀ (i j : Nat) (x y : Stm), i < j → l[i]? = some x → l[j]? = some y → isNamed x.kind = true → isNamed y.kind = true → x.name = y.name → False := by
    intro i j x y hij hx hy nx ny he
    obtain ⟨hj, rfl⟩ := List.getElem?_eq_some_iff.1 hy
    obtain ⟨_, _, h3⟩ := bad_zero (h j hj)
    have hn := find_none (h3 ny) i (by rw [List.length_take]; omega)
    obtain ⟨hi, rfl⟩ := List.getElem?_eq_some_iff.1 hx
    rw [List.getElem_take] at hn
    have : hit l[j].name l[i] = true := hit_true.2 ⟨nx, he⟩
    rw [this] at hn; cases hn
  rcases Nat.lt_trichotomy i j with h1 | h1 | h1
  · exact (key i j x y h1 hx hy nx ny he).elim
  · exact h1
  · exact (key j i y x h1 hy hx ny nx he.symm).elim
/-- The one entry of a name. -/
theorem ents_hit {l : List Stm} (h : Fine l) {name : ByteArray} {i : Nat} {x : Stm} (hi : findI l name = (i : Int)) (hx : l[i]? = some x) : (name, x.kind, ahead (l.take i) x.kind) ∈ ents l ∧ ∀ k c, (name, k, c) ∈ ents l → k = x.kind ∧ c = ahead (l.take i) x.kind := by
  obtain ⟨x', hx', nx, en⟩ := findI_get hi
  have : x' = x := by rw [hx'] at hx; injection hx
  subst this
  obtain ⟨hil, he⟩ := List.getElem?_eq_some_iff.1 hx'
  refine ⟨ents_mem.2 ⟨i, hil, by rw [he]; exact nx, by rw [he]; exact en, by rw [he], rfl⟩, fun k c hm => ?_⟩
  obtain ⟨j, hj, n2, e2, k2, c2⟩ := ents_mem.1 hm
  have hij := fine_one h (List.getElem?_eq_getElem hj) hx' n2 nx (e2.trans en.symm)
  subst hij
  rw [he] at k2
  subst k2
  exact ⟨rfl, c2.symm⟩
theorem ents_miss {l : List Stm} {name : ByteArray} (hi : findI l name < 0) : ∀ k c, (name, k, c) ∉ ents l := by
  intro k c hm
  obtain ⟨j, hj, n2, e2, _, _⟩ := ents_mem.1 hm
  have := findI_neg hi j _ (List.getElem?_eq_getElem hj)
  rw [hit_true.2 ⟨n2, e2⟩] at this
  cases this
theorem ents_name {l : List Stm} {n : ByteArray} {k : Int} {c : Nat} (h : (n, k, c) ∈ ents l) : ∃ x ∈ l, x.name = n := by
  obtain ⟨i, hi, _, hn, _⟩ := ents_mem.1 h
  exact ⟨l[i], List.getElem_mem hi, hn⟩
end Nm
