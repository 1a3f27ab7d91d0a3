/- A maker of steps as it lies in memory. -/
import Derived.Test.YtpppgnphblbbcaaNoKey
import Derived.Test.YtpppgnphblbbcaaTrPush
namespace Go.Proofs.Ytpppgnphblbbcaa
open Go.RowKit
open Go.Maps (Keyed)

/-- What the map holds: each step's number. -/
def kvs (L : List No.Stp) : List (Value × Value) := L.zipIdx.map fun p => (.agg (stpA p.1), .int .i64 (p.2 : Int))
theorem kvs_snoc (L : List No.Stp) (s : No.Stp) : kvs (L ++ [s]) = kvs L ++ [(.agg (stpA s), .int .i64 (L.length : Int))] := by
  simp [kvs, List.zipIdx_append]
theorem kvs_mem {L : List No.Stp} {p : Value × Value} (h : p ∈ kvs L) : ∃ (k : Nat) (s : No.Stp), L[k]? = some s ∧ p = (.agg (stpA s), .int .i64 (k : Int)) := by
  obtain ⟨⟨s, k⟩, hm, rfl⟩ := List.mem_map.1 h
  refine ⟨k, s, ?_, rfl⟩
  rw [List.mem_zipIdx_iff_getElem?] at hm
  simpa using hm
theorem kvs_in {L : List No.Stp} {k : Nat} {s : No.Stp} (h : L[k]? = some s) : (Value.agg (stpA s), Value.int .i64 (k : Int)) ∈ kvs L := by
  refine List.mem_map.2 ⟨(s, k), ?_, rfl⟩
  rw [List.mem_zipIdx_iff_getElem?]
  simpa using h
def rowI (row : List Int) : List Value := row.reverse.map (Value.int .i64)
theorem rowI_cons (a : Int) (r : List Int) : rowI (a :: r) = rowI r ++ [.int .i64 a] := by simp [rowI]
theorem rowI_len (r : List Int) : (rowI r).length = r.length := by simp [rowI]
structure Mk (w : World) (B b mb : Nat) (lv rv : Value) (L : List No.Stp) (row : List Int) : Prop where
  blk : Blk w b 132 #[lv, .map (some mb), rv]
  map : MapAt Try.prog w mb 80 (kvs L)
  ownL : w.ownsRow B 80 10 lv L.length (L.flatMap stpC)
  ownR : w.ownsRow B 3 1 rv row.length (rowI row)
  hb : B ≤ b
  hmb : B ≤ mb
  inv : No.Inv L
section
variable {w w' : World} {B b mb : Nat} {lv rv : Value} {L : List No.Stp} {row : List Int}
theorem Mk.quiet (h : Mk w B b mb lv rv L row) (hc : Chg (fun _ => False) w w') : Mk w' B b mb lv rv L row :=
  ⟨h.blk.chg hc (fun h => h), h.map.chg hc (fun h => h), own_chg h.ownL hc (fun _ _ h => h), own_chg h.ownR hc (fun _ _ h => h), h.hb, h.hmb, h.inv⟩
theorem Mk.cells (h : Mk w B b mb lv rv L row) : w.cell? ⟨b, 0, none⟩ = some lv ∧ w.cell? ⟨b, 1, none⟩ = some (.map (some mb)) ∧ w.cell? ⟨b, 2, none⟩ = some rv := by
  refine ⟨?_, ?_, ?_⟩ <;> rw [h.blk.cell] <;> rfl
theorem Mk.base (h : Mk w B b mb lv rv L row) : B ≤ w.heap.size := Nat.le_trans h.hb (Nat.le_of_lt h.blk.lt)
/-- The cells of one step. -/
theorem stp_cells (h : w.ownsRow B 80 10 lv L.length (L.flatMap stpC)) {k : Nat} {s : No.Stp} (hk : L[k]? = some s) : ∃ g cap, lv = .slice (some ⟨g, 0, none⟩) L.length cap ∧ g < w.heap.size ∧ ∀ (r : Nat) u, (stpC s)[r]? = some u → w.cell? ⟨g, k * 10 + r, none⟩ = some u := by
  have hkl : k < L.length := (List.getElem?_eq_some_iff.1 hk).1
  obtain ⟨g, cap, rfl, _, hlt⟩ := h.form (by omega)
  refine ⟨g, cap, rfl, hlt, fun r u hr => ?_⟩
  have hr10 : r < 10 := by have := (List.getElem?_eq_some_iff.1 hr).1; rwa [stpC_len] at this
  rw [h.cellAt (k * 10 + r) (by omega), flat_get stpC stpC_len L k r hkl hr10]
  obtain ⟨_, he⟩ := List.getElem?_eq_some_iff.1 hk
  rw [he]; exact hr
theorem Mk.at (h : Mk w B b mb lv rv L row) {k : Nat} {s : No.Stp} (hk : L[k]? = some s) : ∃ g cap, lv = .slice (some ⟨g, 0, none⟩) L.length cap ∧ g < w.heap.size ∧ w.cell? ⟨g, k * 10, none⟩ = some (.int .i64 s.op) ∧ w.cell? ⟨g, k * 10 + 1, none⟩ = some (.int .i64 s.a) := by
  obtain ⟨g, cap, h1, h2, h3⟩ := stp_cells h.ownL hk
  exact ⟨g, cap, h1, h2, h3 0 _ rfl, h3 1 _ rfl⟩
theorem zero_int (w : World) : (zeroValue 3).run Try.prog w = .ok (.int .i64 0) w := by kernel_rfl
theorem Mk.hit (h : Mk w B b mb lv rv L row) {k : Nat} {s : No.Stp} (hk : L[k]? = some s) : (Instr.lookup 130 (.map (some mb)) (.agg (stpA s)) true).run Try.prog w = .ok (.tuple #[.int .i64 (k : Int), .bool true]) w := by
  obtain ⟨l, hl⟩ := stp_key (h.inv.ok s (List.mem_of_getElem? hk))
  have := h.map.hit stp_keyed Try.underlying130 hl (kvs_in hk) (fun v' hv' => by
    obtain ⟨j, t, hj, he⟩ := kvs_mem hv'
    obtain ⟨h1, h2⟩ := Prod.mk.inj he
    have := stp_inj h1
    subst this
    rw [h2, h.inv.once j k _ hj hk]) true
  simpa using this
theorem Mk.miss (h : Mk w B b mb lv rv L row) {s : No.Stp} (hs : No.okS s) (hno : ∀ x ∈ L, x ≠ s) : (Instr.lookup 130 (.map (some mb)) (.agg (stpA s)) true).run Try.prog w = .ok (.tuple #[.int .i64 0, .bool false]) w := by
  obtain ⟨l, hl⟩ := stp_key hs
  have := h.map.miss stp_keyed Try.underlying130 (zero_int w) hl (fun p hp e => by
    obtain ⟨j, t, hj, rfl⟩ := kvs_mem hp
    exact hno t (List.mem_of_getElem? hj) (stp_inj e)) true
  simpa using this
end
theorem stp_info : (Try.prog.info? 80).map (fun i => (i.zero, i.size, i.bytes)) = some (some (.agg #[.int .i64 0, .int .i64 0, .int .i64 0, .int .i64 0, .int .i64 0, .int .i64 0, .int .i64 0, .int .i64 0, .int .i64 0, .int .i64 0]), 10, 80) := by kernel_rfl
end Go.Proofs.Ytpppgnphblbbcaa
