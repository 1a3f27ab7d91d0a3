/-
  No cell of these rows narrows 'for every input' (looked for: loops, veiled, ifaces, maps, wideKeys, modest, calm, conditions, laid).
  DERIVED. THE GIVEN ROWS OF THIS SEAT. 2 by the template 'for every input the law returns true; each argument reads behind the call as it read before'; 0 by the template 'total and deterministic' (their statements: YtfnpfkjdcchipaaTotals.lean).
  GIVEN WITH THE SEED: the statements are not yours to turn. If you find one false, say at which input.
  Laid BY PROGRAM, IN A SANDBOX (cutbox-rows.mjs): the forced cells as the released guide's own fill.sh prints them over the translation 0e08defffbec4e9b… (all of the seat's roots in one cut). By AI agents, Wed Nov 11 2026. No macro, syntax, notation, axiom, sorry.
-/
import Derived.Test.YtfnpfkjdcchipaaChecked
import GoSem.Claim
import GoSem.ClaimJoined
import GoSem.ClaimMapViews
import Derived.JoinedTies
import Derived.KernelRfl
namespace Go.Proofs.Ytfnpfkjdcchipaa
/- THE CELL 'sum', in the pinned program and in every row, IS THE sha256 OF THE DUMP (.gsa) THAT YtfnpfkjdcchipaaProg.lean LOADS. Nothing in Lean hashes anything: it is a label: what it is worth is what the hold of that sum in a sandbox is worth. -/
noncomputable def Try.pinned : Pinned := { name := "ytfnpfkjdcchipaa", sum := "0e08defffbec4e9b9c164e3e7f37178b0c723e77ca97aa00aae751e3c6fd76ee", checked := Try.checked }
namespace Rows
def none {H : Type} : Left H := { results := [], args := [] }

/-- 'warderlaw17.RightsWho': WHATEVER THE INPUT: true; the input reads as it did. -/
def rightsWhoSpec : ChangeSpec := { name := "rightsWho", fn := fun _ => fun
  | [d1, d2, d3] => { results := [.lit (.bool true)], args := [d1, d2, d3] }
  | _ => none }
def rightsWhoRow : OpenClaim := { program := "ytfnpfkjdcchipaa", sum := "0e08defffbec4e9b9c164e3e7f37178b0c723e77ca97aa00aae751e3c6fd76ee", func := "warder/warderlaw17.RightsWho", spec := "rightsWho", unfollowed := true, recurses := true, apart := false }
def RightsWhoSaid : Prop := rightsWhoRow.holds Try.pinned (OpenSpec.ofChange rightsWhoSpec)

/-- ITS FALSE NEIGHBOUR: 'it returns false'. Refute it at one input. -/
def rightsWhoWrong : ChangeSpec := { name := "rightsWho", fn := fun _ => fun
  | [d1, d2, d3] => { results := [.lit (.bool false)], args := [d1, d2, d3] }
  | _ => none }
def RightsWhoWrongFalsely : Prop := rightsWhoRow.holds Try.pinned (OpenSpec.ofChange rightsWhoWrong)

/-- 'warderlaw17.RightsLess': WHATEVER THE INPUT: true; the input reads as it did. -/
def rightsLessSpec : ChangeSpec := { name := "rightsLess", fn := fun _ => fun
  | [d1, d2, d3] => { results := [.lit (.bool true)], args := [d1, d2, d3] }
  | _ => none }
def rightsLessRow : OpenClaim := { program := "ytfnpfkjdcchipaa", sum := "0e08defffbec4e9b9c164e3e7f37178b0c723e77ca97aa00aae751e3c6fd76ee", func := "warder/warderlaw17.RightsLess", spec := "rightsLess", unfollowed := true, recurses := true, apart := false }
def RightsLessSaid : Prop := rightsLessRow.holds Try.pinned (OpenSpec.ofChange rightsLessSpec)

/-- ITS FALSE NEIGHBOUR: 'it returns false'. Refute it at one input. -/
def rightsLessWrong : ChangeSpec := { name := "rightsLess", fn := fun _ => fun
  | [d1, d2, d3] => { results := [.lit (.bool false)], args := [d1, d2, d3] }
  | _ => none }
def RightsLessWrongFalsely : Prop := rightsLessRow.holds Try.pinned (OpenSpec.ofChange rightsLessWrong)

/- THE SECOND FORM. 'bulk': how many values and letters a reading holds, each counted each time it is reached (what is shared counts as often as it is met; a slice's spare places count too). A statement '..UptoSaid' is the law's where the arguments, and the package variables that the reading takes, are together of bulk at most 1048576: NARROWER than '..Said'. Prove '..Said' where nothing that the law and all that it calls make is longer than what came in: it says more and counts as full. Else prove '..UptoSaid'. A law counts once. -/
mutual
def uptoBulk {H : Type} : DataW H → Nat
  | .lit (.string bytes) => bytes.length + 1
  | .lit _ => 1
  | .nil => 1
  | .ptr d => uptoBulk d + 1
  | .slice elems spare => uptoBulkAll elems + uptoBulkAll spare + 1
  | .agg parts => uptoBulkAll parts + 1
  | .iface _ d => uptoBulk d + 1
  | .map entries => uptoBulkEntries entries + 1
  | .held _ => 1
def uptoBulkAll {H : Type} : List (DataW H) → Nat
  | [] => 0
  | d :: r => uptoBulk d + uptoBulkAll r
def uptoBulkEntries {H : Type} : List (Lit × DataW H) → Nat
  | [] => 0
  | x :: r => uptoBulkEntry x + uptoBulkEntries r
def uptoBulkEntry {H : Type} : Lit × DataW H → Nat
  | (.string bytes, d) => bytes.length + uptoBulk d + 1
  | (_, d) => uptoBulk d + 1
 end
def uptoSmall : (H : Type) → List (DataW H) → Bool := fun _ ds => decide (uptoBulkAll ds ≤ 1048576)
def OpenSpec.upto (s : _root_.Go.ChangeSpec) : _root_.Go.OpenSpec := { _root_.Go.OpenSpec.ofChange s with cond := some uptoSmall }

/-- 'warderlaw17.RightsWho', WHERE WHAT IT READS IS OF BULK AT MOST 1048576: true; the input reads as it did. -/
def rightsWhoUptoRow : OpenClaim := { program := "ytfnpfkjdcchipaa", sum := "0e08defffbec4e9b9c164e3e7f37178b0c723e77ca97aa00aae751e3c6fd76ee", func := "warder/warderlaw17.RightsWho", spec := "rightsWho", unfollowed := true, recurses := true, apart := false, narrowed := true }
def RightsWhoUptoSaid : Prop := rightsWhoUptoRow.holds Try.pinned (OpenSpec.upto rightsWhoSpec)

/-- 'warderlaw17.RightsLess', WHERE WHAT IT READS IS OF BULK AT MOST 1048576: true; the input reads as it did. -/
def rightsLessUptoRow : OpenClaim := { program := "ytfnpfkjdcchipaa", sum := "0e08defffbec4e9b9c164e3e7f37178b0c723e77ca97aa00aae751e3c6fd76ee", func := "warder/warderlaw17.RightsLess", spec := "rightsLess", unfollowed := true, recurses := true, apart := false, narrowed := true }
def RightsLessUptoSaid : Prop := rightsLessUptoRow.holds Try.pinned (OpenSpec.upto rightsLessSpec)

end Rows
end Go.Proofs.Ytfnpfkjdcchipaa
