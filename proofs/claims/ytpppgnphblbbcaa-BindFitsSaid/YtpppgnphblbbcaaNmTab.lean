/- The table of names in memory; the walks of its readers. -/
import Derived.Test.YtpppgnphblbbcaaNmChk
namespace Go.Proofs.Ytpppgnphblbbcaa
open Go.RowKit

/-- Block b is n cells of type t, cell i holding f i, none frozen. -/
def RowF (w : World) (b : Nat) (t : TypeId) (n : Nat) (f : Nat → Value) : Prop := ∃ cs, Blk w b t cs ∧ cs.size = n ∧ ∀ i, i < n → cs[i]? = some (f i)
section
variable {S : Nat → Prop} {w w' : World} {b n : Nat} {t : TypeId} {f g : Nat → Value}
theorem RowF.cell (h : RowF w b t n f) {i : Nat} (hi : i < n) : w.cell? ⟨b, i, none⟩ = some (f i) := by obtain ⟨cs, hB, _, hf⟩ := h; rw [hB.cell]; exact hf i hi
theorem RowF.frozen (h : RowF w b t n f) (i : Nat) : w.frozen? ⟨b, i, none⟩ = false := by obtain ⟨cs, hB, _, hf⟩ := h; exact hB.frozen i
theorem RowF.lt (h : RowF w b t n f) : b < w.heap.size := by obtain ⟨cs, hB, _, hf⟩ := h; exact hB.lt
theorem RowF.chg (h : RowF w b t n f) (hc : Chg S w w') (hS : ¬ S b) : RowF w' b t n f := by obtain ⟨cs, hB, r⟩ := h; exact ⟨cs, hB.chg hc hS, r⟩
theorem RowF.far (h : RowF w b t n f) {p : Addr} (hp : b ≠ p.block) (u : Value) : RowF (w.setCell p u) b t n f := by obtain ⟨cs, hB, r⟩ := h; exact ⟨cs, hB.far hp u, r⟩
theorem RowF.set (h : RowF w b t n f) (i : Nat) (u : Value) : RowF (w.setCell ⟨b, i, none⟩ u) b t n (fun j => if j = i then u else f j) := by
  obtain ⟨cs, hB, hs, hf⟩ := h
  refine ⟨_, hB.set i u, by simpa using hs, fun j hj => ?_⟩
  rw [Array.getElem?_setIfInBounds]
  by_cases e : i = j
  · subst e; simp [hs, hj]
  · have e' : ¬ j = i := fun h => e h.symm
    simp only [if_neg e, if_neg e']; exact hf j hj
theorem RowF.congr (h : RowF w b t n f) (he : ∀ i, i < n → f i = g i) : RowF w b t n g := by
  obtain ⟨cs, hB, hs, hf⟩ := h
  exact ⟨cs, hB, hs, fun i hi => by rw [← he i hi]; exact hf i hi⟩
theorem RowF.ne_own {base size m : Nat} {e : TypeId} {v : Value} {xs : List Value} (h : RowF w b t n f) (ho : w.ownsRow base e size v m xs) (hne : e ≠ t) : v.ownBlock ≠ some b := by
  obtain ⟨cs, hB, _⟩ := h; exact own_blk_ne ho hB hne
theorem RowF.ne_map {P : Program} {k : TypeId} {mb : Nat} {kvs : List (Value × Value)} (h : RowF w b t n f) (hm : MapAt P w mb k kvs) : mb ≠ b := by
  obtain ⟨cs, hB, _⟩ := h; exact hm.ne_blk hB
end

def entV (e : ByteArray × Int × Nat) : Value × Value := (.string e.1, .agg #[.int .i64 e.2.1, .int .i64 e.2.2])
def tf (mb : Nat) (nv : Nat → Value) (cnt : Nat → Nat) : Nat → Value := fun i => if i = 0 then .map (some mb) else if i < 10 then nv (i - 1) else .int .i64 (cnt (i - 10))
/-- A table of the statements l: its struct at block b, its map at block mb, its lists of names. -/
structure TAt (w : World) (b mb : Nat) (nv : Nat → Value) (l : List Nm.Stm) : Prop where
  row : RowF w b 102 19 (tf mb nv (fun k => Nm.ahead l k))
  map : MapAt Try.prog w mb 9 ((Nm.ents l).map entV)
  own : ∀ k, k < 9 → w.ownsRow 0 9 1 (nv k) (Nm.namesOf l k).length ((Nm.namesOf l k).map Value.string)
  apart : ∀ j k g, j < 9 → k < 9 → j ≠ k → (nv j).ownBlock = some g → (nv k).ownBlock ≠ some g
  few : l.length ≤ 1000000
  sizes : ∀ x ∈ l, x.name.size ≤ maxLen
  fine : Nm.Fine l
def TFoot (b mb : Nat) (nv : Nat → Value) : Nat → Prop := fun k => k = b ∨ k = mb ∨ ∃ j, j < 9 ∧ (nv j).ownBlock = some k

section
variable {S : Nat → Prop} {w w' : World} {b mb : Nat} {nv : Nat → Value} {l : List Nm.Stm}
theorem TAt.chg (h : TAt w b mb nv l) (hc : Chg S w w') (hd : ∀ k, TFoot b mb nv k → ¬ S k) : TAt w' b mb nv l :=
  ⟨h.row.chg hc (hd b (.inl rfl)), h.map.chg hc (hd mb (.inr (.inl rfl))), fun k hk => own_chg (h.own k hk) hc (fun g hg => hd g (.inr (.inr ⟨k, hk, hg⟩))), h.apart, h.few, h.sizes, h.fine⟩
theorem TAt.quiet (h : TAt w b mb nv l) (hc : Chg (fun _ => False) w w') : TAt w' b mb nv l := h.chg hc (fun _ _ h => h)
theorem TAt.mapCell (h : TAt w b mb nv l) : w.cell? ⟨b, 0, none⟩ = some (.map (some mb)) := h.row.cell (by omega)
theorem TAt.nameCell (h : TAt w b mb nv l) {k : Nat} (hk : k < 9) : w.cell? ⟨b, 1 + k, none⟩ = some (nv k) := by
  rw [h.row.cell (by omega)]
  unfold tf; rw [if_neg (by omega), if_pos (by omega), show 1 + k - 1 = k from by omega]
theorem TAt.cntCell (h : TAt w b mb nv l) {k : Nat} (hk : k < 9) : w.cell? ⟨b, 10 + k, none⟩ = some (.int .i64 (Nm.ahead l k)) := by
  rw [h.row.cell (by omega)]
  unfold tf; rw [if_neg (by omega), if_neg (by omega), show 10 + k - 10 = k from by omega]
theorem str_keyed : Go.Maps.Keyed Try.prog 9 := Go.Maps.string_keyed Try.underlying9
theorem str_key {s : ByteArray} (h : s.size ≤ maxLen) : keyOf Try.prog 9 (.string s) = some (.string s.data.toList) := Go.WideMaps.keyOf_string_mk Try.underlying9 h
theorem zero_place (w : World) : (zeroValue 105).run Try.prog w = .ok (.agg #[.int .i64 0, .int .i64 0]) w := by kernel_rfl
theorem TAt.look_miss (h : TAt w b mb nv l) {name : ByteArray} (hz : name.size ≤ maxLen) (hi : Nm.findI l name < 0) (c : Bool) :
    (Instr.lookup 98 (.map (some mb)) (.string name) c).run Try.prog w = .ok (if c then .tuple #[.agg #[.int .i64 0, .int .i64 0], .bool false] else .agg #[.int .i64 0, .int .i64 0]) w := by
  refine h.map.miss str_keyed Try.underlying98 (zero_place w) (str_key hz) (fun p hp e => ?_) c
  obtain ⟨⟨n, k, x⟩, hm, rfl⟩ := List.mem_map.1 hp
  have e : Value.string n = .string name := e
  injection e with e
  subst e
  exact Nm.ents_miss hi k x hm
theorem TAt.look_hit (h : TAt w b mb nv l) {name : ByteArray} (hz : name.size ≤ maxLen) {i : Nat} {x : Nm.Stm} (hi : Nm.findI l name = (i : Int)) (hx : l[i]? = some x) (c : Bool) :
    (Instr.lookup 98 (.map (some mb)) (.string name) c).run Try.prog w = .ok (if c then .tuple #[.agg #[.int .i64 x.kind, .int .i64 (Nm.ahead (l.take i) x.kind)], .bool true] else .agg #[.int .i64 x.kind, .int .i64 (Nm.ahead (l.take i) x.kind)]) w := by
  obtain ⟨h1, h2⟩ := Nm.ents_hit h.fine hi hx
  refine h.map.hit str_keyed Try.underlying98 (str_key hz) (List.mem_map.2 ⟨_, h1, rfl⟩) (fun v' hv' => ?_) c
  obtain ⟨⟨n, k, y⟩, hm, he⟩ := List.mem_map.1 hv'
  simp only [entV, Prod.mk.injEq, Value.string.injEq] at he
  obtain ⟨rfl, rfl⟩ := he
  obtain ⟨rfl, rfl⟩ := h2 k y hm
  rfl
end

set_option maxHeartbeats 400000 in
theorem find_nil (w : World) (name : ByteArray) : Calls Try.prog 18 #[.pointer none, .string name] w fun e w' => e = .returned (.tuple #[.int .i64 0, .int .i64 0, .bool false]) ∧ Chg (fun _ => False) w w' := by
  go_enter Try.func18, Try.ntmps18
  go_wp2
  go_ret3
  exact ⟨rfl, Chg.refl _ _⟩
set_option maxHeartbeats 400000 in
theorem find_no (w : World) (b mb : Nat) (nv : Nat → Value) (l : List Nm.Stm) (name : ByteArray) (hz : name.size ≤ maxLen) (h : TAt w b mb nv l) (hi : Nm.findI l name < 0) :
    Calls Try.prog 18 #[.pointer (some ⟨b, 0, none⟩), .string name] w fun e w' => e = .returned (.tuple #[.int .i64 0, .int .i64 0, .bool false]) ∧ Chg (fun _ => False) w w' := by
  have hlk := h.look_miss hz hi true
  simp only [if_true] at hlk
  have c0 := h.mapCell
  clear h
  go_enter Try.func18, Try.ntmps18
  go_wp2
  go_quiet (fail)
  go_wp2
  go_ret3
  exact ⟨rfl, ((Chg.refl _ _).alloc _).drewN _⟩
set_option maxHeartbeats 400000 in
theorem find_yes (w : World) (b mb : Nat) (nv : Nat → Value) (l : List Nm.Stm) (name : ByteArray) (hz : name.size ≤ maxLen) (h : TAt w b mb nv l) {i : Nat} {x : Nm.Stm} (hi : Nm.findI l name = (i : Int)) (hx : l[i]? = some x) :
    Calls Try.prog 18 #[.pointer (some ⟨b, 0, none⟩), .string name] w fun e w' => e = .returned (.tuple #[.int .i64 x.kind, .int .i64 (Nm.ahead (l.take i) x.kind), .bool true]) ∧ Chg (fun _ => False) w w' := by
  have hlk := h.look_hit hz hi hx true
  simp only [if_true] at hlk
  have c0 := h.mapCell
  obtain ⟨k, hk⟩ : ∃ k, k = x.kind := ⟨_, rfl⟩
  obtain ⟨q, hq⟩ : ∃ q, q = Nm.ahead (l.take i) x.kind := ⟨_, rfl⟩
  rw [← hq, ← hk] at hlk ⊢
  clear h hi hx hk hq
  go_enter Try.func18, Try.ntmps18
  go_wp2
  go_quiet (fail)
  go_wp2
  go_ret3
  exact ⟨rfl, ((Chg.refl _ _).alloc _).drewN _⟩
end Go.Proofs.Ytpppgnphblbbcaa
