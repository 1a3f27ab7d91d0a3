/- A region that draws its order, by an invariant of what has been carried out so far. No program. -/
import Derived.Orders
namespace Go.Proofs.Ytpppgnphblbbcaa

theorem cnt_set : ∀ (l : List Bool) (i : Nat), l[i]? = some false → (l.set i true).count false + 1 = l.count false
  | b :: l, 0, h => by
    have : b = false := by simpa using h
    subst this
    simp
  | b :: l, i + 1, h => by
    have := cnt_set l i (by simpa using h)
    cases b <;> simp <;> omega
section
variable {P : Program} {ops : Array Oper} {Q : Exit → Act → World → Prop} {md : Region.Mode}
theorem cnt_none {listed : Array Bool} (h : listed.toList.count false = 0) (j : Nat) : listed.getD j true = true := by
  cases hj : listed.getD j true with
  | true => rfl
  | false =>
    have hl : j < listed.size := by
      rcases Nat.lt_or_ge j listed.size with h1 | h1
      · exact h1
      · simp [Array.getElem?_eq_none h1] at hj
    have hm : false ∈ listed.toList := by
      rw [Array.mem_toList_iff]
      have : listed[j] = false := by simpa [hl] using hj
      exact this ▸ Array.getElem_mem hl
    exact absurd h (Nat.ne_of_gt (List.count_pos_iff.2 hm))
theorem ready_listed {listed : Array Bool} (hlt : ∀ (i : Nat) o, ops[i]? = some o → ∀ e ∈ o.after, e.on < i) (hsz : listed.size = ops.size) (hr : Region.ready md ops listed = []) : ∀ (n i : Nat), i < n → i < ops.size → listed.getD i false = true
  | n + 1, i, hin, hi => by
    cases hl : listed.getD i false with
    | true => rfl
    | false =>
      have hm : i ∈ Region.ready md ops listed := by
        rw [mem_ready]
        refine ⟨?_, ops[i], Array.getElem?_eq_getElem hi, fun e he _ => ?_⟩
        · have hil : i < listed.size := by omega
          simpa [hil] using hl
        · have h1 := hlt i _ (Array.getElem?_eq_getElem hi) e he
          exact ready_listed hlt hsz hr n e.on (by omega) (by omega)
      rw [hr] at hm; cases hm
/-- An invariant of what is listed, carried through every order. -/
theorem wpAny_inv (I : Array Bool → Act → World → Prop) (hlt : ∀ (i : Nat) o, ops[i]? = some o → ∀ e ∈ o.after, e.on < i)
    (step : ∀ listed a w, I listed a w → ∀ (i : Nat) o, ops[i]? = some o → listed.getD i true = false → (∀ e ∈ o.after, Region.binds md e = true → listed.getD e.on false = true) → wpOp P ops Q i (I (listed.setIfInBounds i true)) a w)
    (done : ∀ listed a w, I listed a w → (∀ i, i < ops.size → listed.getD i false = true) → Q .normal a w) :
    ∀ (fuel : Nat) (listed : Array Bool) (a : Act) (w : World), listed.size = ops.size → listed.toList.count false ≤ fuel → I listed a w → wpAny P md ops Q fuel listed a w := by
  intro fuel
  induction fuel with
  | zero =>
    intro listed a w hsz hc hI
    have hr : Region.ready md ops listed = [] := by
      rw [List.eq_nil_iff_forall_not_mem]
      intro j hj
      have h1 := (mem_ready.1 hj).1
      rw [cnt_none (by omega) j] at h1; cases h1
    exact ⟨hr, done listed a w hI (fun i hi => ready_listed hlt hsz hr (i + 1) i (by omega) hi)⟩
  | succ fuel ih =>
    intro listed a w hsz hc hI
    refine ⟨fun hr => done listed a w hI (fun i hi => ready_listed hlt hsz hr (i + 1) i (by omega) hi), fun i hi => ?_⟩
    obtain ⟨h0, o, ho, ha⟩ := mem_ready.1 hi
    refine wpOp_mono (fun a' w' hI' => ih _ a' w' (by simpa using hsz) ?_ hI') (step listed a w hI i o ho h0 ha)
    have hil : i < listed.size := by
      rcases Nat.lt_or_ge i listed.size with h1 | h1
      · exact h1
      · simp [Array.getElem?_eq_none h1] at h0
    have hget : listed.toList[i]? = some false := by
      rw [Array.getElem?_toList, Array.getElem?_eq_getElem hil]
      simpa [hil] using h0
    have := cnt_set listed.toList i hget
    rw [Array.toList_setIfInBounds]
    omega
end
/-- Slots filled in. -/
def putAll (t : Array Value) : List Nat → (Nat → Value) → Array Value
  | [], _ => t
  | d :: ds, f => putAll (t.setIfInBounds d (f d)) ds f
theorem putAll_size : ∀ (ds : List Nat) (t : Array Value) (f : Nat → Value), (putAll t ds f).size = t.size
  | [], _, _ => rfl
  | d :: ds, t, f => by rw [putAll, putAll_size ds]; simp
theorem putAll_far : ∀ (ds : List Nat) (t : Array Value) (f : Nat → Value) (s : Nat), s ∉ ds → (putAll t ds f)[s]? = t[s]?
  | [], _, _, _, _ => rfl
  | d :: ds, t, f, s, h => by
    rw [putAll, putAll_far ds _ f s (fun hm => h (List.mem_cons_of_mem _ hm)), Array.getElem?_setIfInBounds_ne]
    rintro rfl
    exact h List.mem_cons_self
theorem putAll_at : ∀ (ds : List Nat) (t : Array Value) (f : Nat → Value) (s : Nat), s ∈ ds → s < t.size → (putAll t ds f)[s]? = some (f s)
  | d :: ds, t, f, s, h, hs => by
    rw [putAll]
    by_cases hd : s ∈ ds
    · exact putAll_at ds _ f s hd (by simpa using hs)
    · rw [putAll_far ds _ f s hd]
      obtain rfl : s = d := by
        rcases List.mem_cons.1 h with h | h
        · exact h
        · exact absurd h hd
      simp [hs]
theorem putAll_set (t : Array Value) (ds : List Nat) (f : Nat → Value) (d : Nat) (v : Value) (hd : d ∈ ds) : (putAll t ds f).setIfInBounds d v = putAll t ds (fun s => if s = d then v else f s) := by
  apply Array.ext
  · rw [Array.size_setIfInBounds, putAll_size, putAll_size]
  · intro i h1 h2
    have hi : i < t.size := by rwa [putAll_size] at h2
    have key : ((putAll t ds f).setIfInBounds d v)[i]? = (putAll t ds (fun s => if s = d then v else f s))[i]? := by
      by_cases hid : i = d
      · subst hid
        rw [putAll_at ds t _ i hd hi, if_pos rfl]
        simp [putAll_size, hi]
      · rw [Array.getElem?_setIfInBounds_ne (fun h => hid h.symm)]
        by_cases him : i ∈ ds
        · rw [putAll_at ds t _ i him hi, putAll_at ds t _ i him hi, if_neg hid]
        · rw [putAll_far ds t _ i him, putAll_far ds t _ i him]
    rw [Array.getElem?_eq_getElem h1, Array.getElem?_eq_getElem h2] at key
    injection key
theorem putAll_same : ∀ (ds : List Nat) (t : Array Value), putAll t ds (fun s => t.getD s undef) = t := by
  intro ds t
  apply Array.ext
  · rw [putAll_size]
  · intro i h1 h2
    have key : (putAll t ds (fun s => t.getD s undef))[i]? = t[i]? := by
      by_cases him : i ∈ ds
      · rw [putAll_at ds t _ i him h2, Array.getElem?_eq_getElem h2]
        simp [h2]
      · rw [putAll_far ds t _ i him]
    rw [Array.getElem?_eq_getElem h1, Array.getElem?_eq_getElem h2] at key
    injection key
end Go.Proofs.Ytpppgnphblbbcaa
