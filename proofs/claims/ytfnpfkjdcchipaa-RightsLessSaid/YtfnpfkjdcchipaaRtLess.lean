/- The rights in plain words: what is enabled is free, and what follows. -/
import Derived.Test.YtfnpfkjdcchipaaRtLaw
namespace Go.Proofs.Ytfnpfkjdcchipaa

theorem free_in {m : MC} {s : SC} {e u : Int} (h : freeB m s e u = true) : (0 ≤ e ∧ e < m.ev.length) ∧ (0 ≤ u ∧ u < m.nU) := by
  have he : 0 ≤ e ∧ e < m.ev.length := by
    by_cases h0 : 0 ≤ e ∧ e < m.ev.length
    · exact h0
    · unfold freeB at h; rw [evAt_out h0] at h; cases h
  refine ⟨he, ?_⟩
  unfold freeB at h
  split at h
  · rename_i x _
    simp only [Bool.and_eq_true] at h
    have ho := h.1.2
    unfold ofB at ho
    split at ho
    · rw [Bool.and_eq_true, decide_eq_true_iff] at ho; exact ho.1
    · cases ho
  · cases h
theorem en_free {m : MC} {s : SC} {e u : Int} (h : enB m s e u = true) : freeB m s e u = true := by
  unfold enB at h; rw [Bool.and_eq_true] at h; exact h.1
theorem en_can {m : MC} {s : SC} {e u : Int} (h : enB m s e u = true) : canB m s e = true := by
  obtain ⟨_, h1, h2⟩ := free_in (en_free h)
  rw [canB_any, List.any_eq_true]
  refine ⟨u.toNat, List.mem_range.2 (by omega), ?_⟩
  rw [show ((u.toNat : Nat) : Int) = u by omega]; exact h
theorem en_any' {m : MC} {s : SC} {e u : Int} (h : enB m s e u = true) : anB m s = true := by
  obtain ⟨⟨h1, h2⟩, _⟩ := free_in (en_free h)
  refine anUp_true (j := e.toNat) (by omega) ?_
  rw [show ((e.toNat : Nat) : Int) = e by omega]; exact en_can h
theorem an_stuck {m : MC} {s : SC} (h : anB m s = true) : stuckB m s = false := by unfold stuckB; rw [h]; simp
theorem an_free {m : MC} {s : SC} (h : anB m s = true) : frUp m s m.ev.length = true := by
  unfold anB anUp at h
  rw [List.any_eq_true] at h
  obtain ⟨e, he, hc⟩ := h
  rw [canB_any, List.any_eq_true] at hc
  obtain ⟨u, hu, hen⟩ := hc
  unfold frUp frRow
  rw [List.any_eq_true]
  refine ⟨e, he, ?_⟩
  rw [List.any_eq_true]
  exact ⟨u, hu, en_free hen⟩
theorem com_an {m : MC} {s : SC} (h : com m s = true) : anB m s = false := by
  cases ha : anB m s with
  | false => rfl
  | true => rw [frUp_not_com (an_free ha)] at h; cases h
theorem com_stuck {m : MC} {s : SC} (h : com m s = true) : stuckB m s = false := by unfold stuckB; rw [h]; simp
/-- Without duties that are apart. -/
def noSods (m : MC) : MC := { m with aD := none, so := [], cD := 0 }
theorem free_noSods (m : MC) (s : SC) (e u : Int) : freeB (noSods m) s e u = freeB m s e u := rfl
theorem en_noSods (m : MC) (s : SC) (e u : Int) : enB (noSods m) s e u = freeB m s e u := by
  unfold enB
  rw [free_noSods]
  simp [apB, noSods]
theorem stuck_noSods (m : MC) (s : SC) : stuckB (noSods m) s = false := by
  unfold stuckB
  cases hf : frUp (noSods m) s (noSods m).ev.length with
  | false => simp
  | true =>
    have ha : anB (noSods m) s = true := by
      unfold frUp frRow at hf
      simp only [List.any_eq_true] at hf
      obtain ⟨e, _, u, _, h⟩ := hf
      exact en_any' (u := u) (e := e) (by rw [en_noSods]; exact h)
    rw [ha]; simp
end Go.Proofs.Ytfnpfkjdcchipaa
