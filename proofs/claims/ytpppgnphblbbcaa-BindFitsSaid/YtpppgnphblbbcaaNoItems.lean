/- Instructions that came in, as items: what loops over them meet. -/
import Derived.Test.YtpppgnphblbbcaaNoUp
import Derived.Test.YtpppgnphblbbcaaBnSame
namespace Go.Proofs.Ytpppgnphblbbcaa
open Go.RowKit

theorem instV7_len (x : Nm.Inst) : (instV7 x).length = 7 := rfl
/-- The cells of one instruction of a row. -/
theorem ins_at {w : World} {B : Nat} {A : Option Addr} {f : List Nm.Inst} (h : Rd w B A (f.flatMap instV7)) {i : Nat} {x : Nm.Inst} (hi : f[i]? = some x) :
    ∃ b o, A = some ⟨b, o, none⟩ ∧ b < B ∧ w.cell? ⟨b, o + i * 7, none⟩ = some (.int .i64 x.op) ∧ w.cell? ⟨b, o + i * 7 + 1, none⟩ = some (.int .i64 x.la) ∧ w.cell? ⟨b, o + i * 7 + 2, none⟩ = some (.int .i64 x.lnum) ∧ w.cell? ⟨b, o + i * 7 + 3, none⟩ = some (.int .i64 x.ra) ∧ w.cell? ⟨b, o + i * 7 + 4, none⟩ = some (.int .i64 x.rnum) ∧ w.cell? ⟨b, o + i * 7 + 5, none⟩ = some (.int .i64 x.n) ∧ w.cell? ⟨b, o + i * 7 + 6, none⟩ = some (.int .i64 x.user) := by
  have hil : i < f.length := (List.getElem?_eq_some_iff.1 hi).1
  have he : f[i] = x := (List.getElem?_eq_some_iff.1 hi).2
  have hlen : (f.flatMap instV7).length = f.length * 7 := flat_len instV7 instV7_len f
  obtain ⟨b, o, hA, hb, hc⟩ := h.plain (by rw [hlen]; omega)
  have key : ∀ (r : Nat) u, (instV7 x)[r]? = some u → w.cell? ⟨b, o + i * 7 + r, none⟩ = some u := fun r u hr => by
    have hr7 : r < 7 := (List.getElem?_eq_some_iff.1 hr).1
    rw [Nat.add_assoc]
    exact hc (i * 7 + r) u (by rw [flat_get instV7 instV7_len f i r hil hr7, he]; exact hr)
  exact ⟨b, o, hA, hb, key 0 _ rfl, key 1 _ rfl, key 2 _ rfl, key 3 _ rfl, key 4 _ rfl, key 5 _ rfl, key 6 _ rfl⟩
/-- The items built so far. -/
def itemsUp (f : List Nm.Inst) (j : Nat) : List Nm.Item := (f.take j).map toItem
theorem itemsUp_succ {f : List Nm.Inst} {j : Nat} {x : Nm.Inst} (h : f[j]? = some x) : itemsUp f (j + 1) = itemsUp f j ++ [toItem x] := by
  obtain ⟨hjl, rfl⟩ := List.getElem?_eq_some_iff.1 h
  unfold itemsUp
  rw [List.take_succ_eq_append_getElem hjl, List.map_append]; rfl
theorem cellsI_snoc (l : List Nm.Item) (x : Nm.Item) : cellsI (l ++ [x]) = cellsI l ++ itemC x := by simp [cellsI]
theorem itemsUp_all (f : List Nm.Inst) : itemsUp f f.length = f.map toItem := by unfold itemsUp; rw [List.take_length]
theorem itemC_to (x : Nm.Inst) : itemC (toItem x) = [.int .i64 x.op, .string ⟨#[]⟩, .int .i64 0, .string ⟨#[]⟩, .int .i64 0, .string ⟨#[]⟩, .string ⟨#[]⟩, .int .i64 0, .int .i64 0] := rfl
theorem item70 : (Try.prog.info? 70).map (fun i => (i.zero, i.size, i.bytes)) = some (some (.agg #[.int .i64 0, .string ⟨#[]⟩, .int .i64 0, .string ⟨#[]⟩, .int .i64 0, .string ⟨#[]⟩, .string ⟨#[]⟩, .int .i64 0, .int .i64 0]), 9, 104) := by kernel_rfl
theorem int3 : (Try.prog.info? 3).map (fun i => (i.zero, i.size, i.bytes)) = some (some (.int .i64 0), 1, 8) := by kernel_rfl
/-- One item more has been appended. -/
structure Items (w0 wr : World) (f : List Nm.Inst) (j : Nat) (v : Value) : Prop where
  own : wr.ownsRow w0.heap.size 70 9 v j (cellsI (itemsUp f j))
  chg : Chg (fun _ => False) w0 wr
theorem Items.start (w : World) (f : List Nm.Inst) : Items w w f 0 (.slice none 0 0) := ⟨World.ownsRow_nil _ _ _ _, Chg.refl _ _⟩
theorem Items.more {w0 wr wa w' : World} {f : List Nm.Inst} {j g cap : Nat} {v : Value} {x : Nm.Inst} (h : Items w0 wr f j v) (hx : f[j]? = some x) (ha : Chg (fun _ => False) wr wa)
    (ho : w'.ownsRow w0.heap.size 70 9 (.slice (some ⟨g, 0, none⟩) (j + 1) cap) (j + 1) (cellsI (itemsUp f j) ++ itemC (toItem x))) (hg : wa.grownBy w' v.ownBlock) : Items w0 w' f (j + 1) (.slice (some ⟨g, 0, none⟩) (j + 1) cap) := by
  refine ⟨by rw [itemsUp_succ hx, cellsI_snoc]; exact ho, ?_⟩
  have c1 : Chg (fun k => v.ownBlock = some k) wr w' := Chg.grown (S := fun k => v.ownBlock = some k) (ha.mono (fun _ _ h => h.elim)) hg (fun k hk => .inl hk)
  exact Chg.trans h.chg c1 (fun i hi e => by have := (h.own.lt i e).1; omega)
end Go.Proofs.Ytpppgnphblbbcaa
