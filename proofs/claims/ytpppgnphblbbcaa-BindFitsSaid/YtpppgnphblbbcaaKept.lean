/- A region that draws its order, whose callees may make memory of their own but turn nothing that was there: one walk. -/
import Derived.Test.YtpppgnphblbbcaaTrPart
import Derived.BigQuiet
namespace Go.Proofs.Ytpppgnphblbbcaa
open Go.RowKit

/-- A world in which nothing of w0 has turned. -/
structure KW (w0 : World) where
  w : World
  h : Chg (fun _ => False) w0 w
instance kwThere (w0 : World) : Nonempty (KW w0) := ⟨⟨w0, Chg.refl _ _⟩⟩
theorem wp_region_kept {P : Program} {id : Nat} {Q : Exit → Act → World → Prop} {a : Act} {w : World} {l : List Oper} (w0 : World) (hw : Chg (fun _ => False) w0 w) (hm : P.follows .mixedOrders = true) (hB : Region.lexB .any l.toArray = true)
    (h : wpQuiet P l.toArray (fun w' => ∃ n : KW w0, w' = n.w) (fun a' => ∀ w', (∃ n : KW w0, w' = n.w) → Q .normal a' w') l a) : (Code.region id l.toArray true).wp P Q a w :=
  wp_region_quiet (C := fun w' => ∃ n : KW w0, w' = n.w) hm hB ⟨⟨{ w with drawn := w.drawn + 1 }, ⟨hw.os, hw.tape, hw.output, hw.size, hw.block⟩⟩, rfl⟩ (by simpa using h)
theorem kept_cell {w0 : World} {p : Addr} {u : Value} (h : w0.cell? p = some u) (n : KW w0) : n.w.cell? p = some u := keep_cell n.h (fun _ h => h) h
theorem kept_call {w0 : World} {f : FuncId} {args : Array Value} {v : Value} {n : KW w0} (h : Calls Try.prog f args n.w fun e w' => e = .returned v ∧ Chg (fun _ => False) n.w w') : Calls Try.prog f args n.w fun e w'' => e = .returned v ∧ ∃ m : KW w0, w'' = m.w :=
  h.mono fun _ w' ⟨he, hc⟩ => ⟨he, ⟨w', Chg.trans n.h hc (fun _ _ h => h)⟩, rfl⟩
theorem kept_same {w0 : World} {f : FuncId} {args : Array Value} {v : Value} {n : KW w0} (h : Calls Try.prog f args n.w fun e w' => e = .returned v ∧ n.w = w') : Calls Try.prog f args n.w fun e w'' => e = .returned v ∧ ∃ m : KW w0, w'' = m.w :=
  h.mono fun _ _ ⟨he, hc⟩ => ⟨he, n, hc.symm⟩
end Go.Proofs.Ytpppgnphblbbcaa
