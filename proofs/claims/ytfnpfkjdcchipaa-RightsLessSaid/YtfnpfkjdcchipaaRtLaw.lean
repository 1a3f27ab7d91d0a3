/- The rights in plain words: what the program's Any and Stuck compute is what the reference's do. -/
import Derived.Test.YtfnpfkjdcchipaaRStuck
namespace Go.Proofs.Ytfnpfkjdcchipaa

theorem rowsP_any (nU nE : Nat) (f : Nat × Nat → Bool) : (rowsP nU nE).any f = (List.range nE).any fun e => (List.range nU).any fun u => f (e, u) := by
  rw [Bool.eq_iff_iff]
  simp only [rowsP, rowP, List.any_eq_true, List.mem_flatMap, List.mem_map]
  constructor
  · rintro ⟨x, ⟨e, he, u, hu, rfl⟩, hf⟩
    exact ⟨e, he, u, hu, hf⟩
  · rintro ⟨e, he, u, hu, hf⟩
    exact ⟨(e, u), ⟨e, he, u, hu, rfl⟩, hf⟩
theorem frUp_rows (m : MC) (s : SC) : (rowsP m.nU m.ev.length).any (frP m s) = frUp m s m.ev.length := by rw [rowsP_any]; rfl
theorem canB_any (m : MC) (s : SC) (e : Int) : canB m s e = (List.range m.nU).any fun (u : Nat) => enB m s e u := by
  unfold canB whoL
  rw [Bool.eq_iff_iff, decide_eq_true_iff, List.length_map, List.length_pos_iff_exists_mem, List.any_eq_true]
  constructor
  · rintro ⟨u, hu⟩
    rw [List.mem_filter] at hu
    exact ⟨u, hu.1, hu.2⟩
  · rintro ⟨u, hu, he⟩
    exact ⟨u, List.mem_filter.2 ⟨hu, he⟩⟩
theorem anB_rows (m : MC) (s : SC) : (rowsP m.nU m.ev.length).any (enP m s) = anB m s := by
  rw [rowsP_any]
  unfold anB anUp
  congr 1
  funext e
  rw [canB_any]
  rfl
theorem free_not_com {m : MC} {s : SC} {e u : Int} (h : freeB m s e u = true) : com m s = false := by
  unfold freeB at h
  split at h
  · simp only [Bool.and_eq_true, Bool.not_eq_true'] at h
    exact h.1.1.1
  · cases h
theorem frUp_not_com {m : MC} {s : SC} (h : frUp m s m.ev.length = true) : com m s = false := by
  unfold frUp frRow at h
  simp only [List.any_eq_true] at h
  obtain ⟨e, _, u, _, hf⟩ := h
  exact free_not_com hf
theorem stuck_same (m : MC) (s : SC) : (opUp m s m.nS && !(rowsP m.nU m.ev.length).any (enP m s) && (rowsP m.nU m.ev.length).any (frP m s)) = stuckB m s := by
  rw [anB_rows, frUp_rows]
  unfold stuckB
  cases hf : frUp m s m.ev.length with
  | false => simp
  | true => rw [frUp_not_com hf]; cases opUp m s m.nS <;> cases anB m s <;> rfl
end Go.Proofs.Ytfnpfkjdcchipaa
