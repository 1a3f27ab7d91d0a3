/- The plain law of BindFits: what is bound is there, and its form is that of the items. -/
import Derived.Test.YtpppgnphblbbcaaBfCheck
import Derived.Test.YtpppgnphblbbcaaNmLaws
namespace Go.Proofs.Ytpppgnphblbbcaa
open Go.RowKit

theorem need_in {l : List Nm.Stm} {nm : ByteArray} {k : Int} (h : (Nm.need l nm k).2 = 0) : 0 ≤ (Nm.need l nm k).1 ∧ (Nm.need l nm k).1 < (Nm.ahead l k : Int) := by
  unfold Nm.need at h ⊢
  cases hf : Nm.find l nm with
  | none => rw [hf] at h; simp at h
  | some i =>
    rw [hf] at h
    dsimp only at h ⊢
    cases hx : l[i]? with
    | none => rw [hx] at h; simp at h
    | some x =>
      rw [hx] at h
      dsimp only at h ⊢
      by_cases hk : x.kind = k
      · rw [if_pos hk]
        have := Nm.ahead_lt hx
        rw [hk] at this
        dsimp only
        omega
      · rw [if_neg hk] at h; simp at h
theorem first_zero {a b : Int} (h : Nm.first a b = 0) : a = 0 ∧ b = 0 := by
  unfold Nm.first at h
  split at h
  · exact ⟨by assumption, h⟩
  · exact absurd h (by assumption)
theorem fault_all {l : List Nm.Stm} : ∀ {f : List Nm.Item}, (Nm.fault l f).1 = 0 → ∀ x ∈ f, Nm.instE l x = 0
  | [], _, x, hx => by cases hx
  | y :: r, h, x, hx => by
    unfold Nm.fault at h
    by_cases h0 : Nm.instE l y = 0
    · rw [if_pos h0] at h
      rcases List.mem_cons.1 hx with rfl | hx
      · exact h0
      · exact fault_all h x hx
    · rw [if_neg h0] at h
      exact absurd h h0
/-- As much of each kind as there are names. -/
structure Szd' (m : Emp) (l : List Nm.Stm) : Prop where
  a : m.nA = Nm.ahead l 1
  u : m.nU = Nm.ahead l 2
  s : m.nS = Nm.ahead l 4
  e : m.nE = Nm.ahead l 5
  m : m.nM = Nm.ahead l 7
theorem fits {l : List Nm.Stm} {m : Emp} (hs : Szd' m l) {x : Nm.Item} (h : Nm.instE l x = 0) : fitI m (Nm.instV l x) := by
  obtain ⟨s1, s2, s4, s5, s7⟩ := hs
  have hop : (Nm.instV l x).op = x.op := by unfold Nm.instV; (repeat' split) <;> rfl
  unfold fitI
  rw [hop]
  have val : ∀ (nm : ByteArray) (num : Int), Nm.valE l nm = 0 → -1 ≤ (Nm.valV l nm num).1 ∧ (Nm.valV l nm num).1 < (m.nA : Int) := fun nm num hv => by
    unfold Nm.valE at hv
    unfold Nm.valV
    by_cases he : nm = ⟨#[]⟩
    · rw [if_pos he]; dsimp only; omega
    · rw [if_neg he] at hv ⊢
      have := need_in hv
      dsimp only
      omega
  refine ⟨fun ho => ?_, fun ho => ?_, fun ho => ?_, fun ho => ?_, fun ho => ?_⟩
  · unfold Nm.instE at h
    rw [if_pos ho] at h
    obtain ⟨h1, h2⟩ := first_zero h
    unfold Nm.instV
    rw [if_pos ho]
    exact ⟨val _ _ h1, val _ _ h2⟩
  · unfold Nm.instE at h
    rw [if_neg (by omega), if_pos ho] at h
    unfold Nm.instV
    rw [if_neg (by omega), if_pos ho]
    have := need_in h
    dsimp only
    omega
  · unfold Nm.instE at h
    rw [if_neg (by omega), if_neg (by omega), if_pos ho] at h
    unfold Nm.instV
    rw [if_neg (by omega), if_neg (by omega), if_pos ho]
    have := need_in h
    dsimp only
    omega
  · unfold Nm.instE at h
    rw [if_neg (by omega), if_neg (by omega), if_neg (by omega), if_pos ho] at h
    unfold Nm.instV
    rw [if_neg (by omega), if_neg (by omega), if_neg (by omega), if_pos ho]
    have := need_in h
    dsimp only
    omega
  · unfold Nm.instE at h
    rw [if_neg (by omega), if_neg (by omega), if_neg (by omega), if_neg (by omega), if_pos ho] at h
    obtain ⟨h1, h2⟩ := first_zero h
    unfold Nm.instV
    rw [if_neg (by omega), if_neg (by omega), if_neg (by omega), if_neg (by omega), if_pos ho]
    have := need_in h1
    have := need_in h2
    dsimp only
    omega
/-- An item without its names. -/
def plainOp (op : Int) : Int := if 9 ≤ op ∧ op ≤ 12 then (if 11 ≤ op then 13 else 1) else op
def plainI (x : Nm.Item) : Nm.Inst := ⟨plainOp x.op, -1, 0, -1, 0, 0, 0⟩
theorem plain_bare (m : Emp) (x : Nm.Item) : bare m (plainI x) := by
  unfold bare plainI plainOp
  dsimp only
  refine ⟨fun h => ⟨⟨by omega, by omega⟩, by omega, by omega⟩, ?_⟩
  split
  · split <;> omega
  · omega
theorem plain_arity (op : Int) : Tr.arity (plainOp op) = Tr.arity op := by
  unfold plainOp
  by_cases h : 9 ≤ op ∧ op ≤ 12
  · rw [if_pos h]
    have h1 : Tr.arity op = 0 := by unfold Tr.arity; rw [if_pos (by omega)]
    rw [h1]
    split <;> rfl
  · rw [if_neg h]
theorem plain_timed (op : Int) : timed (plainOp op) = timed op := by
  unfold plainOp
  by_cases h : 9 ≤ op ∧ op ≤ 12
  · rw [if_pos h]
    by_cases h2 : 11 ≤ op
    · rw [if_pos h2, timed_14 (op := op) (by omega)]; rfl
    · rw [if_neg h2, timed_11 (op := op) (by omega)]; rfl
  · rw [if_neg h]
theorem beg_arity {f g : Nat → Int} : ∀ (n : Nat) (k : Int), (∀ i, i < n → Tr.arity (f i) = Tr.arity (g i)) → Tr.beg f k n = Tr.beg g k n
  | 0, _, _ => rfl
  | n + 1, k, h => by rw [Tr.beg_succ, Tr.beg_succ, h n (by omega), beg_arity n _ (fun i hi => h i (by omega))]
theorem chk_same (l : List Nm.Stm) (f : List Nm.Item) (prop : Bool) : chkB (f.map (Nm.instV l)) prop = chkB (f.map plainI) prop := by
  have hop : ∀ x, (Nm.instV l x).op = x.op := fun x => by unfold Nm.instV; (repeat' split) <;> rfl
  unfold chkB
  congr 1
  · rw [List.length_map, List.length_map]
    unfold Tr.check
    rw [beg_arity (f := sgI (f.map (Nm.instV l))) (g := sgI (f.map plainI)) f.length 1 (fun i hi => by
      have hx : f[i]? = some f[i] := List.getElem?_eq_getElem hi
      rw [sgI_at (x := Nm.instV l f[i]) (by rw [List.getElem?_map, hx]; rfl), sgI_at (x := plainI f[i]) (by rw [List.getElem?_map, hx]; rfl), hop]
      exact (plain_arity _).symm)]
  · rw [List.all_map, List.all_map]
    congr 1
    funext x
    unfold mayB Function.comp
    dsimp only
    rw [hop]
    show (!timed x.op || prop) = (!timed (plainOp x.op) || prop)
    rw [plain_timed]
end Go.Proofs.Ytpppgnphblbbcaa
