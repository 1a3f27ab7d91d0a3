/- A table with its footprint as one word; Put by one contract for each case; a slice of texts that came in. -/
import Derived.Test.YtjdchelgpniliaaAwake
import Derived.Test.YtjdchelgpniliaaLaw
import Derived.SliceStrings
namespace Go.Proofs.Ytjdchelgpniliaa
open Go.ChangeShapes Go.WideShapes Go.ChangeAt Go.RowKit

/-- At block b lies a table of the texts ts; all its blocks are of F. -/
def Tbl (w : World) (F : Nat → Prop) (b : Nat) (ts : List ByteArray) : Prop :=
  ∃ hb m nv tv hs nx, TabAt w b hb m nv tv hs nx ts ∧ ∀ k, TabFoot b hb nv tv k → F k
/-- F, and what is new from w to w'. -/
def Wider (F : Nat → Prop) (w w' : World) : Nat → Prop := fun k => F k ∨ (w.heap.size ≤ k ∧ k < w'.heap.size)

section
variable {S F : Nat → Prop} {w w' : World} {b : Nat} {ts : List ByteArray}
theorem Tbl.chg (h : Tbl w F b ts) (hc : Chg S w w') (hd : ∀ k, F k → ¬ S k) : Tbl w' F b ts := by
  obtain ⟨hb, m, nv, tv, hs, nx, hT, hF⟩ := h
  exact ⟨hb, m, nv, tv, hs, nx, hT.chg hc (fun k hk => hd k (hF k hk)), hF⟩
theorem Tbl.wide (h : Tbl w F b ts) (hF : ∀ k, F k → S k) : Tbl w S b ts := by
  obtain ⟨hb, m, nv, tv, hs, nx, hT, h'⟩ := h
  exact ⟨hb, m, nv, tv, hs, nx, hT, fun k hk => hF k (h' k hk)⟩
theorem Tbl.drewN (h : Tbl w F b ts) (n : Nat) : Tbl (w.drewN n) F b ts := h.chg ((Chg.refl (fun _ => False) w).drewN n) (fun _ _ h => h)
theorem Tbl.len (h : Tbl w F b ts) : ∃ A c, w.cell? ⟨b, 2, none⟩ = some (.slice A ts.length c) := by
  obtain ⟨hb, m, nv, tv, hs, nx, hT, h'⟩ := h
  exact hT.len
theorem Tbl.few (h : Tbl w F b ts) : ts.length ≤ 1000000 := by
  obtain ⟨hb, m, nv, tv, hs, nx, hT, h'⟩ := h
  exact hT.few
theorem Tbl.mem (h : Tbl w F b ts) : F b := by
  obtain ⟨hb, m, nv, tv, hs, nx, hT, h'⟩ := h
  exact h' b (.inl rfl)
theorem tbl_new (h : NewDone w w') : Tbl w' (fun k => w.heap.size ≤ k ∧ k < w'.heap.size) (w.heap.size + 1) [] ∧ Chg (fun _ => False) w w' := by
  obtain ⟨m, hT, hC, hsz⟩ := h
  refine ⟨⟨_, _, _, _, _, _, hT, fun k hk => ?_⟩, hC⟩
  rcases hk with rfl | rfl | e | e
  · omega
  · omega
  · simp [Value.ownBlock] at e
  · simp [Value.ownBlock] at e
end

theorem put_tbl_new (w : World) (F : Nat → Prop) (b : Nat) (ts : List ByteArray) (s : ByteArray) (hz : s.size ≤ maxLen) (h : Tbl w F b ts) (hno : s ∉ ts) (hmore : ts.length < 1000000) :
    Calls Try.prog 12 #[.pointer (some ⟨b, 0, none⟩), .string s] w fun e w' => e = .returned (.tuple #[.int .i64 ts.length, .bool true]) ∧ Tbl w' (Wider F w w') b (ts ++ [s]) ∧ Chg F w w' := by
  obtain ⟨hb, m, nv, tv, hs, nx, hT, hF⟩ := h
  refine (put_new w b hb m nv tv hs nx ts s hz hT hno hmore).mono fun e w' ⟨he, nv', tv', hs', nx', hT', hC', hF'⟩ => ⟨he, ⟨hb, m, nv', tv', hs', nx', hT', fun k hk => ?_⟩, hC'.mono fun k _ hk => hF k hk⟩
  rcases hF' k hk with h | h
  · exact .inl (hF k h)
  · exact .inr h
theorem put_tbl_old (w : World) (F : Nat → Prop) (b : Nat) (ts : List ByteArray) (s : ByteArray) (i : Nat) (hz : s.size ≤ maxLen) (h : Tbl w F b ts) (hi : ts[i]? = some s) :
    Calls Try.prog 12 #[.pointer (some ⟨b, 0, none⟩), .string s] w fun e w' => e = .returned (.tuple #[.int .i64 i, .bool false]) ∧ ∃ n, w' = w.drewN n := by
  obtain ⟨hb, m, nv, tv, hs, nx, hT, hF⟩ := h
  exact put_old w b hb m nv tv hs nx ts s i hz hT hi
theorem find_tbl_no (w : World) (F : Nat → Prop) (b : Nat) (ts : List ByteArray) (s : ByteArray) (hz : s.size ≤ maxLen) (h : Tbl w F b ts) (hno : s ∉ ts) :
    Calls Try.prog 16 #[.pointer (some ⟨b, 0, none⟩), .string s] w fun e w' => e = .returned (.tuple #[.int .i64 0, .bool false]) ∧ ∃ n, w' = w.drewN n := by
  obtain ⟨hb, m, nv, tv, hs, nx, hT, hF⟩ := h
  exact find_no w b hb m nv tv hs nx ts s hz hT hno
theorem find_tbl_yes (w : World) (F : Nat → Prop) (b : Nat) (ts : List ByteArray) (s : ByteArray) (i : Nat) (hz : s.size ≤ maxLen) (h : Tbl w F b ts) (hi : ts[i]? = some s) :
    Calls Try.prog 16 #[.pointer (some ⟨b, 0, none⟩), .string s] w fun e w' => e = .returned (.tuple #[.int .i64 i, .bool true]) ∧ ∃ n, w' = w.drewN n := by
  obtain ⟨hb, m, nv, tv, hs, nx, hT, hF⟩ := h
  exact find_yes w b hb m nv tv hs nx ts s i hz hT hi
theorem text_tbl (w : World) (F : Nat → Prop) (b : Nat) (ts : List ByteArray) (s : ByteArray) (i : Nat) (h : Tbl w F b ts) (hi : ts[i]? = some s) :
    Calls Try.prog 15 #[.pointer (some ⟨b, 0, none⟩), .int .i64 i] w fun e w' => e = .returned (.string s) ∧ w = w' := by
  obtain ⟨hb, m, nv, tv, hs, nx, hT, hF⟩ := h
  obtain ⟨hil, hti⟩ := List.getElem?_eq_some_iff.1 hi
  obtain ⟨g, cap, rfl, _, _, _, hc⟩ := own_form hT.txo (by omega)
  refine text_in w b g ts.length cap i s (by rw [hT.str.cell]; rfl) hil ?_
  rw [hc i hil, List.getElem?_map, hi]; rfl
theorem text_tbl_out (w : World) (F : Nat → Prop) (b : Nat) (ts : List ByteArray) (i : Int) (h : Tbl w F b ts) (hi : i < 0 ∨ (ts.length : Int) ≤ i) :
    Calls Try.prog 15 #[.pointer (some ⟨b, 0, none⟩), .int .i64 i] w fun e w' => e = .returned (.string ⟨#[]⟩) ∧ w = w' := by
  obtain ⟨A, c, hc⟩ := h.len
  exact text_out w b A ts.length c i hc hi

/-- A slice of texts that came in: its texts, and where they lie. -/
theorem strs_in {H : Type} {enc : TypeId × Value → H} {W : World} {A : Option Addr} {n c : Nat} {d : DataW H} {p : List MemPlace} (h : DataW.Trod enc Try.prog W 0 (fun _ => true) true 27 (.slice A n c) d p) :
    ∃ ts : List ByteArray, n = ts.length ∧ ts.length ≤ maxLen ∧ Rd W W.heap.size A (ts.map Value.string) ∧ ∀ t ∈ ts, t.size ≤ maxLen := by
  obtain ⟨fuel, hf⟩ := h
  rcases open_strings Try.underlying27 Try.underlying9 (by kernel_rfl) hf with ⟨hcs, _⟩ | ⟨a, len, cap, ss, hcs, _, hl, hm, hz, _, hcell, hws⟩
  · simp only [Value.cells, List.cons.injEq, and_true] at hcs
    injection hcs with h1 h2 h3
    subst h1; subst h2
    exact ⟨[], rfl, by simp, fun h => by simp at h, fun t h => by simp at h⟩
  · simp only [Value.cells, List.cons.injEq, and_true] at hcs
    injection hcs with h1 h2 h3
    subst h1; subst h2; subst h3
    have hlen : ss.length = c := hz
    have hlt : (ss.take n).length = n := by rw [List.length_take]; omega
    refine ⟨ss.take n, hlt.symm, by omega, fun h0 => ?_, fun t ht => hws t (List.mem_of_mem_take ht)⟩
    rw [List.length_map, hlt] at h0
    refine ⟨a, rfl, ?_, fun j u hu => ?_⟩
    · have := World.block_lt_of_cell? W _ (hcell 0 (by omega))
      rwa [block_of_add] at this
    · rw [List.getElem?_map] at hu
      obtain ⟨t, ht, rfl⟩ := Option.map_eq_some_iff.1 hu
      have hj : j < n := by have := (List.getElem?_eq_some_iff.1 ht).1; omega
      rw [hcell j (by omega), List.getElem?_take_of_lt hj] at *
      simp [List.getD, ht]
end Go.Proofs.Ytjdchelgpniliaa
