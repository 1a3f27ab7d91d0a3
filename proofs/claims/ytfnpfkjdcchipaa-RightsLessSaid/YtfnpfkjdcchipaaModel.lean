/- A model and a state as they lie in memory, and what is said of them in plain words. -/
import Derived.Test.YtfnpfkjdcchipaaBits
import Derived.Test.YtfnpfkjdcchipaaArgs
namespace Go.Proofs.Ytfnpfkjdcchipaa
open Go.RowKit

structure EvC where
  nm : ByteArray
  role : Int
  stage : Int
  sa : Option Addr
  sn : Nat
  sc : Nat
  times : Int
structure MiC where
  nm : ByteArray
  stage : Int
  event : Int
  ia : Option Addr
  il : Nat
  ic : Nat
  fin : Bool
structure RoC where
  nm : ByteArray
  us : Int
structure GuC where
  stage : Int
  event : Int
  ia : Option Addr
  il : Nat
  ic : Nat
def evC (x : EvC) : List Value := [.string x.nm, .int .i64 x.role, .int .i64 x.stage, .slice x.sa x.sn x.sc, .int .i64 x.times]
def miC (x : MiC) : List Value := [.string x.nm, .int .i64 x.stage, .int .i64 x.event, .slice x.ia x.il x.ic, .bool x.fin]
def roC (x : RoC) : List Value := [.string x.nm, .int .i64 x.us]
def guC (x : GuC) : List Value := [.int .i64 x.stage, .int .i64 x.event, .slice x.ia x.il x.ic]
def soC (x : Int × Int) : List Value := [.int .i64 x.1, .int .i64 x.2]
def inC (x : Int) : List Value := [.int .i64 x]
structure MC where
  aA : Option Addr
  nA : Nat
  cA : Nat
  aI : Option Addr
  nI : Nat
  cI : Nat
  aU : Option Addr
  nU : Nat
  cU : Nat
  aR : Option Addr
  ro : List RoC
  cR : Nat
  aS : Option Addr
  nS : Nat
  cS : Nat
  aE : Option Addr
  ev : List EvC
  cE : Nat
  aG : Option Addr
  gu : List GuC
  cG : Nat
  aM : Option Addr
  mi : List MiC
  cM : Nat
  aD : Option Addr
  so : List (Int × Int)
  cD : Nat
  aO : Option Addr
  nO : Nat
  cO : Nat
def mA (m : MC) : Array Value := #[.slice m.aA m.nA m.cA, .slice m.aI m.nI m.cI, .slice m.aU m.nU m.cU, .slice m.aR m.ro.length m.cR, .slice m.aS m.nS m.cS, .slice m.aE m.ev.length m.cE, .slice m.aG m.gu.length m.cG, .slice m.aM m.mi.length m.cM, .slice m.aD m.so.length m.cD, .slice m.aO m.nO m.cO]
structure SC where
  aV : Option Addr
  nV : Nat
  cV : Nat
  op : Int
  dn : Int
  aD : Option Addr
  did : List Int
  cD : Nat
  aC : Option Addr
  cnt : List Int
  cC : Nat
def sA (s : SC) : Array Value := #[.slice s.aV s.nV s.cV, .int .i64 s.op, .int .i64 s.dn, .slice s.aD s.did.length s.cD, .slice s.aC s.cnt.length s.cC]
def inR (n : Int) : Prop := -9223372036854775808 ≤ n ∧ n ≤ 9223372036854775807
structure Good (W : World) (m : MC) (s : SC) : Prop where
  ro : Rd W W.heap.size m.aR (m.ro.flatMap roC)
  ev : Rd W W.heap.size m.aE (m.ev.flatMap evC)
  gu : Rd W W.heap.size m.aG (m.gu.flatMap guC)
  mi : Rd W W.heap.size m.aM (m.mi.flatMap miC)
  so : Rd W W.heap.size m.aD (m.so.flatMap soC)
  did : Rd W W.heap.size s.aD (s.did.flatMap inC)
  cnt : Rd W W.heap.size s.aC (s.cnt.flatMap inC)
  lens : m.nA ≤ maxLen ∧ m.nI ≤ maxLen ∧ m.nU ≤ maxLen ∧ m.ro.length ≤ maxLen ∧ m.nS ≤ maxLen ∧ m.ev.length ≤ maxLen ∧ m.gu.length ≤ maxLen ∧ m.mi.length ≤ maxLen ∧ m.so.length ≤ maxLen ∧ m.nO ≤ maxLen
  lens2 : s.nV ≤ maxLen ∧ s.did.length ≤ maxLen ∧ s.cnt.length ≤ maxLen
  opR : inR s.op
  dnR : inR s.dn
  usR : ∀ x ∈ m.ro, inR x.us
  didR : ∀ x ∈ s.did, inR x
theorem Rd.later {S : Nat → Prop} {w w' : World} {A : Option Addr} {xs : List Value} (h : Rd w w.heap.size A xs) (hc : Chg S w w') (hS : ∀ k, S k → w.heap.size ≤ k) : Rd w' w'.heap.size A xs := (h.chg hc (Nat.le_refl _) hS).more hc.size
theorem Good.later {w w' : World} {m : MC} {s : SC} (h : Good w m s) (hc : Chg (fun _ => False) w w') : Good w' m s :=
  ⟨h.ro.later hc (fun _ h => h.elim), h.ev.later hc (fun _ h => h.elim), h.gu.later hc (fun _ h => h.elim), h.mi.later hc (fun _ h => h.elim), h.so.later hc (fun _ h => h.elim), h.did.later hc (fun _ h => h.elim), h.cnt.later hc (fun _ h => h.elim), h.lens, h.lens2, h.opR, h.dnR, h.usR, h.didR⟩
/-- The cells of one element of a row. -/
theorem row_at {α : Type} {f : α → List Value} {C : Nat} (hf : ∀ x, (f x).length = C) (hC : 0 < C) {w : World} {B : Nat} {A : Option Addr} {l : List α} (h : Rd w B A (l.flatMap f)) {i : Nat} {x : α} (hi : l[i]? = some x) :
    ∃ b o, A = some ⟨b, o, none⟩ ∧ b < B ∧ ∀ r u, (f x)[r]? = some u → w.cell? ⟨b, o + i * C + r, none⟩ = some u := by
  obtain ⟨hil, rfl⟩ := List.getElem?_eq_some_iff.1 hi
  have hlen : (l.flatMap f).length = l.length * C := flat_len f hf l
  obtain ⟨b, o, hA, hb, hc⟩ := h.plain (by rw [hlen]; exact Nat.mul_pos (by omega) hC)
  refine ⟨b, o, hA, hb, fun r u hr => ?_⟩
  have hrC : r < C := by rw [← hf l[i]]; exact (List.getElem?_eq_some_iff.1 hr).1
  have := hc (i * C + r) u (by rw [← hr]; exact flat_get f hf l i r hil hrC)
  rwa [← Nat.add_assoc] at this
theorem keep_cell {S : Nat → Prop} {w1 w2 : World} (h : Chg S w1 w2) (hS : ∀ k, ¬ S k) {p : Addr} {u : Value} (hu : w1.cell? p = some u) : w2.cell? p = some u := by
  rw [h.cell (World.block_lt_of_cell? w1 p hu) (hS _)]; exact hu
/-- The boxes of a model and a state. -/
structure Boxes (w : World) (g k : Nat) (m : MC) (s : SC) : Prop where
  m : Blk w g 32 (mA m)
  s : Blk w k 35 (sA s)
theorem Boxes.later {w w' : World} {g k : Nat} {m : MC} {s : SC} (h : Boxes w g k m s) (hc : Chg (fun _ => False) w w') : Boxes w' g k m s := ⟨h.m.chg hc (fun h => h), h.s.chg hc (fun h => h)⟩
theorem Boxes.new (w : World) (m : MC) (s : SC) : Boxes ((w.alloc (.cells (mA m) 32)).alloc (.cells (sA s) 35)) w.heap.size (w.heap.size + 1) m s := by
  refine ⟨(Blk.new w 32 (mA m)).alloc _, ?_⟩
  have h := Blk.new (w.alloc (.cells (mA m) 32)) 35 (sA s)
  rwa [show (w.alloc (.cells (mA m) 32)).heap.size = w.heap.size + 1 by simp] at h
theorem mcells {w : World} {g : Nat} {m : MC} (h : Blk w g 32 (mA m)) : w.cell? ⟨g, 0, none⟩ = some (.slice m.aA m.nA m.cA) ∧ w.cell? ⟨g, 1, none⟩ = some (.slice m.aI m.nI m.cI) ∧ w.cell? ⟨g, 2, none⟩ = some (.slice m.aU m.nU m.cU) ∧ w.cell? ⟨g, 3, none⟩ = some (.slice m.aR m.ro.length m.cR) ∧ w.cell? ⟨g, 4, none⟩ = some (.slice m.aS m.nS m.cS) ∧ w.cell? ⟨g, 5, none⟩ = some (.slice m.aE m.ev.length m.cE) ∧ w.cell? ⟨g, 6, none⟩ = some (.slice m.aG m.gu.length m.cG) ∧ w.cell? ⟨g, 7, none⟩ = some (.slice m.aM m.mi.length m.cM) ∧ w.cell? ⟨g, 8, none⟩ = some (.slice m.aD m.so.length m.cD) ∧ w.cell? ⟨g, 9, none⟩ = some (.slice m.aO m.nO m.cO) := by
  refine ⟨?_, ?_, ?_, ?_, ?_, ?_, ?_, ?_, ?_, ?_⟩ <;> rw [h.cell] <;> rfl
theorem scells {w : World} {g : Nat} {s : SC} (h : Blk w g 35 (sA s)) : w.cell? ⟨g, 0, none⟩ = some (.slice s.aV s.nV s.cV) ∧ w.cell? ⟨g, 1, none⟩ = some (.int .i64 s.op) ∧ w.cell? ⟨g, 2, none⟩ = some (.int .i64 s.dn) ∧ w.cell? ⟨g, 3, none⟩ = some (.slice s.aD s.did.length s.cD) ∧ w.cell? ⟨g, 4, none⟩ = some (.slice s.aC s.cnt.length s.cC) := by
  refine ⟨?_, ?_, ?_, ?_, ?_⟩ <;> rw [h.cell] <;> rfl

/-! ### In plain words -/
def comUp (m : MC) (s : SC) (j : Nat) : Bool := (List.range j).any fun i => match m.mi[i]? with
  | some x => x.fin && hasB s.dn i
  | none => false
def com (m : MC) (s : SC) : Bool := comUp m s m.mi.length
theorem comUp_succ {m : MC} {s : SC} {j : Nat} {x : MiC} (h : m.mi[j]? = some x) : comUp m s (j + 1) = (comUp m s j || (x.fin && hasB s.dn j)) := by
  unfold comUp
  rw [List.range_succ, List.any_append]
  simp [h]
theorem comUp_true {m : MC} {s : SC} {j : Nat} {x : MiC} (h : m.mi[j]? = some x) (hx : (x.fin && hasB s.dn j) = true) : com m s = true := by
  unfold com comUp
  rw [List.any_eq_true]
  refine ⟨j, List.mem_range.2 (List.getElem?_eq_some_iff.1 h).1, ?_⟩
  rw [h]; exact hx
def atV (l : List Int) (i : Int) : Int := if 0 ≤ i then l.getD i.toNat 0 else 0
theorem hasB_zero (i : Int) : hasB 0 i = false := by unfold hasB; simp
end Go.Proofs.Ytfnpfkjdcchipaa
