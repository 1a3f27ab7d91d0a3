/- A map that the call made: what it holds, as a list of keys and values; lookups, and the storing of a new key. No program. -/
import Derived.Test.YtpppgnphblbbcaaLib
import Derived.Maps.Keyed
import Derived.Carry
namespace Go.Proofs.Ytpppgnphblbbcaa
open Go.RowKit
open Go.Maps (Keyed)
open Go.ChangeMaps (setBlock)

/-- Block b is a map of just these keys and values, in the order of their coming; its keys are keys of type k. -/
def MapAt (P : Program) (w : World) (b : Nat) (k : TypeId) (kvs : List (Value × Value)) : Prop :=
  ∃ es clock, w.heap[b]? = some (.map es clock) ∧ es.toList.map (fun e => (e.key, e.val)) = kvs ∧ ∀ e ∈ es.toList, ∃ l, keyOf P k e.key = some l

section
variable {P : Program} {S : Nat → Prop} {w w' : World} {b : Nat} {k : TypeId} {kvs : List (Value × Value)}
theorem MapAt.lt (h : MapAt P w b k kvs) : b < w.heap.size := by
  obtain ⟨es, clock, hb, _⟩ := h
  rcases Nat.lt_or_ge b w.heap.size with hlt | hge
  · exact hlt
  · rw [Array.getElem?_eq_none hge] at hb; cases hb
theorem MapAt.new (w : World) : MapAt P (w.alloc (.map #[] 0)) w.heap.size k [] := ⟨#[], 0, heap_alloc_new w _, rfl, fun e he => by simp at he⟩
theorem MapAt.same (h : MapAt P w b k kvs) (hw : w'.heap[b]? = w.heap[b]?) : MapAt P w' b k kvs := by
  obtain ⟨es, clock, hb, r⟩ := h
  exact ⟨es, clock, hw.trans hb, r⟩
theorem MapAt.chg (h : MapAt P w b k kvs) (hc : Chg S w w') (hS : ¬ S b) : MapAt P w' b k kvs := h.same (hc.block b h.lt hS)
theorem MapAt.alloc (h : MapAt P w b k kvs) (o : Obj) : MapAt P (w.alloc o) b k kvs := h.same (Below.heap_alloc w o b h.lt)
theorem MapAt.drewN (h : MapAt P w b k kvs) (n : Nat) : MapAt P (w.drewN n) b k kvs := h
theorem MapAt.ne_blk {g : Nat} {t : TypeId} {cs : Array Value} (h : MapAt P w b k kvs) (hg : Blk w g t cs) : b ≠ g := by
  rintro rfl
  obtain ⟨es, clock, hb, _⟩ := h
  unfold Blk at hg
  rw [hb] at hg
  cases hg
theorem MapAt.ne_own {base size n : Nat} {e : TypeId} {v : Value} {xs : List Value} (h : MapAt P w b k kvs) (ho : w.ownsRow base e size v n xs) : v.ownBlock ≠ some b := by
  rcases ho.2 with ⟨rfl, _⟩ | ⟨g, cap, cur, rfl, _, hh, _⟩
  · simp [Value.ownBlock]
  · intro he
    have : g = b := by simpa [Value.ownBlock] using he
    subst this
    exact h.ne_blk (cs := cur) (t := e) hh rfl

variable {t e : TypeId} {key : Value} {l : Lit}
theorem MapAt.find (h : MapAt P w b k kvs) (K : Keyed P k) (hkey : keyOf P k key = some l) : ∃ es clock, w.heap[b]? = some (.map es clock) ∧ es.toList.map (fun e => (e.key, e.val)) = kvs ∧ (∀ e ∈ es.toList, ∃ l, keyOf P k e.key = some l) ∧
    (((Instr.findKey k key es.toList).run P w = .ok none w ∧ ∀ p ∈ kvs, p.1 ≠ key) ∨ ∃ j v, (Instr.findKey k key es.toList).run P w = .ok (some (j, v)) w ∧ (key, v) ∈ kvs) := by
  obtain ⟨es, clock, hb, hm, hk⟩ := h
  refine ⟨es, clock, hb, hm, hk, ?_⟩
  rcases K.find w hkey es.toList hk with ⟨h1, h2⟩ | ⟨j, e0, h1, h2, h3⟩
  · refine .inl ⟨h1, fun p hp => ?_⟩
    rw [← hm] at hp
    obtain ⟨x, hx, rfl⟩ := List.mem_map.1 hp
    exact h2 x hx
  · refine .inr ⟨j, e0.val, h1, ?_⟩
    rw [← hm, ← h3]
    exact List.mem_map.2 ⟨e0, List.mem_of_getElem? h2, rfl⟩
theorem MapAt.miss (h : MapAt P w b k kvs) (K : Keyed P k) (ht : P.underlying t = some (.map k e)) {z : Value} (hz : (zeroValue e).run P w = .ok z w) (hkey : keyOf P k key = some l) (hno : ∀ p ∈ kvs, p.1 ≠ key) (c : Bool) :
    (Instr.lookup t (.map (some b)) key c).run P w = .ok (if c then .tuple #[z, .bool false] else z) w := by
  obtain ⟨es, clock, hb, _, _, ⟨h1, _⟩ | ⟨j, v, _, hin⟩⟩ := h.find K hkey
  · simp [Instr.lookup, run_underlying ht, MapKept.run_getObj_map hb, K.check w _ hkey, h1, hz, Result.andThen]
  · exact absurd rfl (hno _ hin)
theorem MapAt.hit (h : MapAt P w b k kvs) (K : Keyed P k) (ht : P.underlying t = some (.map k e)) (hkey : keyOf P k key = some l) {v : Value} (hin : (key, v) ∈ kvs) (hone : ∀ v', (key, v') ∈ kvs → v' = v) (c : Bool) :
    (Instr.lookup t (.map (some b)) key c).run P w = .ok (if c then .tuple #[v, .bool true] else v) w := by
  obtain ⟨es, clock, hb, _, _, ⟨h1, hno⟩ | ⟨j, v', h1, hin'⟩⟩ := h.find K hkey
  · exact absurd rfl (hno _ hin)
  · rw [hone v' hin'] at h1
    simp [Instr.lookup, run_underlying ht, MapKept.run_getObj_map hb, K.check w _ hkey, h1, Result.andThen]
theorem MapAt.fresh (h : MapAt P w b k kvs) (K : Keyed P k) (ht : P.underlying t = some (.map k e)) (hkey : keyOf P k key = some l) (hno : ∀ p ∈ kvs, p.1 ≠ key) (val : Value) :
    ∃ w', (Instr.mapUpdate t (.map (some b)) key val).run P w = .ok () w' ∧ MapAt P w' b k (kvs ++ [(key, val)]) ∧ Chg (fun i => i = b) w w' ∧ w'.heap.size = w.heap.size := by
  have hlt := h.lt
  obtain ⟨es, clock, hb, hm, hk, ⟨h1, _⟩ | ⟨j, v, _, hin⟩⟩ := h.find K hkey
  · refine ⟨setBlock w b (.map (es.push ⟨key, val, clock⟩) (clock + 1)), ?_, ⟨es.push ⟨key, val, clock⟩, clock + 1, ?_, ?_, ?_⟩, ⟨rfl, rfl, rfl, by simp [setBlock], fun i hi hne => ?_⟩, by simp [setBlock]⟩
    · simp [Instr.mapUpdate, run_underlying ht, MapKept.run_getObj_map hb, K.check w false hkey, h1, MapKept.run_setObj_map _ hb, Result.andThen, setBlock]
    · simp [setBlock, hlt]
    · simp [← hm]
    · intro e he
      simp only [Array.toList_push, List.mem_append, List.mem_singleton] at he
      rcases he with he | rfl
      · exact hk e he
      · exact ⟨l, hkey⟩
    · simp only [setBlock, Array.getElem?_setIfInBounds]
      rw [if_neg (fun e => hne e.symm)]
  · exact absurd rfl (hno _ hin)
end
end Go.Proofs.Ytpppgnphblbbcaa
