/- Plain mathematics of binding: an item's instruction, and what is wrong first. No program. -/
import Derived.Test.YtpppgnphblbbcaaNmLaws
namespace Nm
structure Item where
  op : Int
  ln : ByteArray
  lnum : Int
  rn : ByteArray
  rnum : Int
  name : ByteArray
  user : ByteArray
  line : Int
  col : Int
structure Inst where
  op : Int
  la : Int
  lnum : Int
  ra : Int
  rnum : Int
  n : Int
  user : Int
def first (e e' : Int) : Int := if e = 0 then e' else e
def valV (l : List Stm) (nm : ByteArray) (num : Int) : Int × Int := if nm = ⟨#[]⟩ then (-1, num) else ((need l nm 1).1, 0)
def valE (l : List Stm) (nm : ByteArray) : Int := if nm = ⟨#[]⟩ then 0 else (need l nm 1).2
def instV (l : List Stm) (x : Item) : Inst :=
  if 3 ≤ x.op ∧ x.op ≤ 8 then ⟨x.op, (valV l x.ln x.lnum).1, (valV l x.ln x.lnum).2, (valV l x.rn x.rnum).1, (valV l x.rn x.rnum).2, 0, 0⟩
  else if x.op = 9 then ⟨x.op, 0, 0, 0, 0, (need l x.name 4).1, 0⟩
  else if x.op = 10 then ⟨x.op, 0, 0, 0, 0, (need l x.name 7).1, 0⟩
  else if x.op = 11 then ⟨x.op, 0, 0, 0, 0, (need l x.name 5).1, 0⟩
  else if x.op = 12 then ⟨x.op, 0, 0, 0, 0, (need l x.name 5).1, (need l x.user 2).1⟩
  else ⟨x.op, 0, 0, 0, 0, 0, 0⟩
def instE (l : List Stm) (x : Item) : Int :=
  if 3 ≤ x.op ∧ x.op ≤ 8 then first (valE l x.ln) (valE l x.rn)
  else if x.op = 9 then (need l x.name 4).2
  else if x.op = 10 then (need l x.name 7).2
  else if x.op = 11 then (need l x.name 5).2
  else if x.op = 12 then first (need l x.user 2).2 (need l x.name 5).2
  else 0
/-- The first item that is wrong, with its place; all 0: none. -/
def fault (l : List Stm) : List Item → Int × Int × Int
  | [] => (0, 0, 0)
  | x :: r => if instE l x = 0 then fault l r else (instE l x, x.line, x.col)
theorem fault_fine {l : List Stm} : ∀ {f : List Item}, (∀ (i : Nat) x, f[i]? = some x → instE l x = 0) → fault l f = (0, 0, 0)
  | [], _ => rfl
  | x :: r, h => by
    unfold fault
    rw [if_pos (h 0 x rfl)]
    exact fault_fine fun i y hy => h (i + 1) y hy
theorem fault_at {l : List Stm} : ∀ {f : List Item} {i : Nat} {x : Item}, (∀ (j : Nat) y, j < i → f[j]? = some y → instE l y = 0) → f[i]? = some x → instE l x ≠ 0 → fault l f = (instE l x, x.line, x.col)
  | y :: r, 0, x, _, hx, he => by
    have : y = x := by simpa using hx
    subst this
    unfold fault
    rw [if_neg he]
  | y :: r, i + 1, x, h, hx, he => by
    unfold fault
    rw [if_pos (h 0 y (by omega) rfl)]
    exact fault_at (fun j z hj hz => h (j + 1) z (Nat.succ_lt_succ hj) hz) (by simpa using hx) he
end Nm
