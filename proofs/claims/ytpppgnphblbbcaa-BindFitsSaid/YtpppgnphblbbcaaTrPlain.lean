/- Plain mathematics of formulas as lists of items: signs alone. No program. -/
namespace Tr
/-- Of how many formulas an item is put; -1: none that there is. -/
def arity (op : Int) : Int := if 1 ≤ op ∧ op ≤ 14 then 0 else if op = 15 ∨ (19 ≤ op ∧ op ≤ 24) then 1 else if (16 ≤ op ∧ op ≤ 18) ∨ op = 25 ∨ op = 26 then 2 else -1
inductive T where
  | leaf (at_ : Nat)
  | one (at_ : Nat) (x : T)
  | two (at_ : Nat) (x y : T)
namespace T
def endOf : T → Nat
  | leaf a => a
  | one a _ => a
  | two a _ _ => a
def deep : T → Nat
  | leaf _ => 1
  | one _ x => x.deep + 1
  | two _ x y => max x.deep y.deep + 1
def first : T → Nat
  | leaf a => a
  | one _ x => x.first
  | two _ x _ => x.first
end T
/-- An item on a row of formulas, the last first. -/
def push (row : List T) (op : Int) (at_ : Nat) : Option (List T) :=
  if arity op = 0 then some (.leaf at_ :: row)
  else if arity op = 1 then (match row with | x :: r => some (.one at_ x :: r) | _ => none)
  else if arity op = 2 then (match row with | y :: x :: r => some (.two at_ x y :: r) | _ => none)
  else none
end Tr
