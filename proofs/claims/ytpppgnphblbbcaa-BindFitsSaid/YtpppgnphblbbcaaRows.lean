/-
  No cell of these rows narrows 'for every input' (looked for: loops, veiled, ifaces, maps, wideKeys, modest, calm, conditions, laid).
  DERIVED. THE GIVEN ROWS OF THIS SEAT. 13 by the template 'for every input the law returns true; each argument reads behind the call as it read before'; 0 by the template 'total and deterministic' (their statements: YtpppgnphblbbcaaTotals.lean).
  GIVEN WITH THE SEED: the statements are not yours to turn. If you find one false, say at which input.
  Laid BY PROGRAM, IN A SANDBOX (cutbox-rows.mjs): the forced cells as the released guide's own fill.sh prints them over the translation 5f45ccb9fe205c51… (all of the seat's roots in one cut). By AI agents, Wed Nov 11 2026. No macro, syntax, notation, axiom, sorry.
-/
import Derived.Test.YtpppgnphblbbcaaChecked
import GoSem.Claim
import GoSem.ClaimJoined
import GoSem.ClaimMapViews
import Derived.JoinedTies
import Derived.KernelRfl
namespace Go.Proofs.Ytpppgnphblbbcaa
/- THE CELL 'sum', in the pinned program and in every row, IS THE sha256 OF THE DUMP (.gsa) THAT YtpppgnphblbbcaaProg.lean LOADS. Nothing in Lean hashes anything: it is a label: what it is worth is what the hold of that sum in a sandbox is worth. -/
noncomputable def Try.pinned : Pinned := { name := "ytpppgnphblbbcaa", sum := "5f45ccb9fe205c516a8b41d3133a7293e61f538da180484676160f805d1b4f9b", checked := Try.checked }
namespace Rows
def none {H : Type} : Left H := { results := [], args := [] }

/-- 'warderlaw09.NamesBack': WHATEVER THE INPUT: true; the input reads as it did. -/
def namesBackSpec : ChangeSpec := { name := "namesBack", fn := fun _ => fun
  | [d] => { results := [.lit (.bool true)], args := [d] }
  | _ => none }
def namesBackRow : OpenClaim := { program := "ytpppgnphblbbcaa", sum := "5f45ccb9fe205c516a8b41d3133a7293e61f538da180484676160f805d1b4f9b", func := "warder/warderlaw09.NamesBack", spec := "namesBack", plainKeys := false, apart := false }
def NamesBackSaid : Prop := namesBackRow.holds Try.pinned (OpenSpec.ofChange namesBackSpec)

/-- ITS FALSE NEIGHBOUR: 'it returns false'. Refute it at one input. -/
def namesBackWrong : ChangeSpec := { name := "namesBack", fn := fun _ => fun
  | [d] => { results := [.lit (.bool false)], args := [d] }
  | _ => none }
def NamesBackWrongFalsely : Prop := namesBackRow.holds Try.pinned (OpenSpec.ofChange namesBackWrong)

/-- 'warderlaw09.NamesFew': WHATEVER THE INPUT: true; the input reads as it did. -/
def namesFewSpec : ChangeSpec := { name := "namesFew", fn := fun _ => fun
  | [d1, d2, d3] => { results := [.lit (.bool true)], args := [d1, d2, d3] }
  | _ => none }
def namesFewRow : OpenClaim := { program := "ytpppgnphblbbcaa", sum := "5f45ccb9fe205c516a8b41d3133a7293e61f538da180484676160f805d1b4f9b", func := "warder/warderlaw09.NamesFew", spec := "namesFew", plainKeys := false, apart := false }
def NamesFewSaid : Prop := namesFewRow.holds Try.pinned (OpenSpec.ofChange namesFewSpec)

/-- ITS FALSE NEIGHBOUR: 'it returns false'. Refute it at one input. -/
def namesFewWrong : ChangeSpec := { name := "namesFew", fn := fun _ => fun
  | [d1, d2, d3] => { results := [.lit (.bool false)], args := [d1, d2, d3] }
  | _ => none }
def NamesFewWrongFalsely : Prop := namesFewRow.holds Try.pinned (OpenSpec.ofChange namesFewWrong)

/-- 'warderlaw09.NamesFinds': WHATEVER THE INPUT: true; the input reads as it did. -/
def namesFindsSpec : ChangeSpec := { name := "namesFinds", fn := fun _ => fun
  | [d1, d2, d3] => { results := [.lit (.bool true)], args := [d1, d2, d3] }
  | _ => none }
def namesFindsRow : OpenClaim := { program := "ytpppgnphblbbcaa", sum := "5f45ccb9fe205c516a8b41d3133a7293e61f538da180484676160f805d1b4f9b", func := "warder/warderlaw09.NamesFinds", spec := "namesFinds", plainKeys := false, apart := false }
def NamesFindsSaid : Prop := namesFindsRow.holds Try.pinned (OpenSpec.ofChange namesFindsSpec)

/-- ITS FALSE NEIGHBOUR: 'it returns false'. Refute it at one input. -/
def namesFindsWrong : ChangeSpec := { name := "namesFinds", fn := fun _ => fun
  | [d1, d2, d3] => { results := [.lit (.bool false)], args := [d1, d2, d3] }
  | _ => none }
def NamesFindsWrongFalsely : Prop := namesFindsRow.holds Try.pinned (OpenSpec.ofChange namesFindsWrong)

/-- 'warderlaw11.BindFormulas': WHATEVER THE INPUT: true; the input reads as it did. -/
def bindFormulasSpec : ChangeSpec := { name := "bindFormulas", fn := fun _ => fun
  | [d1, d2] => { results := [.lit (.bool true)], args := [d1, d2] }
  | _ => none }
def bindFormulasRow : OpenClaim := { program := "ytpppgnphblbbcaa", sum := "5f45ccb9fe205c516a8b41d3133a7293e61f538da180484676160f805d1b4f9b", func := "warder/warderlaw11.BindFormulas", spec := "bindFormulas", unfollowed := true, recurses := true, plainKeys := false, apart := false }
def BindFormulasSaid : Prop := bindFormulasRow.holds Try.pinned (OpenSpec.ofChange bindFormulasSpec)

/-- ITS FALSE NEIGHBOUR: 'it returns false'. Refute it at one input. -/
def bindFormulasWrong : ChangeSpec := { name := "bindFormulas", fn := fun _ => fun
  | [d1, d2] => { results := [.lit (.bool false)], args := [d1, d2] }
  | _ => none }
def BindFormulasWrongFalsely : Prop := bindFormulasRow.holds Try.pinned (OpenSpec.ofChange bindFormulasWrong)

/-- 'warderlaw04.TreeChecks': WHATEVER THE INPUT: true; the input reads as it did. -/
def treeChecksSpec : ChangeSpec := { name := "treeChecks", fn := fun _ => fun
  | [d] => { results := [.lit (.bool true)], args := [d] }
  | _ => none }
def treeChecksRow : OpenClaim := { program := "ytpppgnphblbbcaa", sum := "5f45ccb9fe205c516a8b41d3133a7293e61f538da180484676160f805d1b4f9b", func := "warder/warderlaw04.TreeChecks", spec := "treeChecks", unfollowed := true, recurses := true, plainKeys := false, apart := false }
def TreeChecksSaid : Prop := treeChecksRow.holds Try.pinned (OpenSpec.ofChange treeChecksSpec)

/-- ITS FALSE NEIGHBOUR: 'it returns false'. Refute it at one input. -/
def treeChecksWrong : ChangeSpec := { name := "treeChecks", fn := fun _ => fun
  | [d] => { results := [.lit (.bool false)], args := [d] }
  | _ => none }
def TreeChecksWrongFalsely : Prop := treeChecksRow.holds Try.pinned (OpenSpec.ofChange treeChecksWrong)

/-- 'warderlaw04.TreeParts': WHATEVER THE INPUT: true; the input reads as it did. -/
def treePartsSpec : ChangeSpec := { name := "treeParts", fn := fun _ => fun
  | [d1, d2] => { results := [.lit (.bool true)], args := [d1, d2] }
  | _ => none }
def treePartsRow : OpenClaim := { program := "ytpppgnphblbbcaa", sum := "5f45ccb9fe205c516a8b41d3133a7293e61f538da180484676160f805d1b4f9b", func := "warder/warderlaw04.TreeParts", spec := "treeParts", unfollowed := true, recurses := true, plainKeys := false, apart := false }
def TreePartsSaid : Prop := treePartsRow.holds Try.pinned (OpenSpec.ofChange treePartsSpec)

/-- ITS FALSE NEIGHBOUR: 'it returns false'. Refute it at one input. -/
def treePartsWrong : ChangeSpec := { name := "treeParts", fn := fun _ => fun
  | [d1, d2] => { results := [.lit (.bool false)], args := [d1, d2] }
  | _ => none }
def TreePartsWrongFalsely : Prop := treePartsRow.holds Try.pinned (OpenSpec.ofChange treePartsWrong)

/-- 'warderlaw04.TreeNests': WHATEVER THE INPUT: true; the input reads as it did. -/
def treeNestsSpec : ChangeSpec := { name := "treeNests", fn := fun _ => fun
  | [d1, d2, d3] => { results := [.lit (.bool true)], args := [d1, d2, d3] }
  | _ => none }
def treeNestsRow : OpenClaim := { program := "ytpppgnphblbbcaa", sum := "5f45ccb9fe205c516a8b41d3133a7293e61f538da180484676160f805d1b4f9b", func := "warder/warderlaw04.TreeNests", spec := "treeNests", unfollowed := true, recurses := true, plainKeys := false, apart := false }
def TreeNestsSaid : Prop := treeNestsRow.holds Try.pinned (OpenSpec.ofChange treeNestsSpec)

/-- ITS FALSE NEIGHBOUR: 'it returns false'. Refute it at one input. -/
def treeNestsWrong : ChangeSpec := { name := "treeNests", fn := fun _ => fun
  | [d1, d2, d3] => { results := [.lit (.bool false)], args := [d1, d2, d3] }
  | _ => none }
def TreeNestsWrongFalsely : Prop := treeNestsRow.holds Try.pinned (OpenSpec.ofChange treeNestsWrong)

/-- 'warderlaw04.TreeArity': WHATEVER THE INPUT: true; the input reads as it did. -/
def treeAritySpec : ChangeSpec := { name := "treeArity", fn := fun _ => fun
  | [d1, d2] => { results := [.lit (.bool true)], args := [d1, d2] }
  | _ => none }
def treeArityRow : OpenClaim := { program := "ytpppgnphblbbcaa", sum := "5f45ccb9fe205c516a8b41d3133a7293e61f538da180484676160f805d1b4f9b", func := "warder/warderlaw04.TreeArity", spec := "treeArity", unfollowed := true, recurses := true, plainKeys := false, apart := false }
def TreeAritySaid : Prop := treeArityRow.holds Try.pinned (OpenSpec.ofChange treeAritySpec)

/-- ITS FALSE NEIGHBOUR: 'it returns false'. Refute it at one input. -/
def treeArityWrong : ChangeSpec := { name := "treeArity", fn := fun _ => fun
  | [d1, d2] => { results := [.lit (.bool false)], args := [d1, d2] }
  | _ => none }
def TreeArityWrongFalsely : Prop := treeArityRow.holds Try.pinned (OpenSpec.ofChange treeArityWrong)

/-- 'warderlaw04.TreePuts': WHATEVER THE INPUT: true; the input reads as it did. -/
def treePutsSpec : ChangeSpec := { name := "treePuts", fn := fun _ => fun
  | [d1, d2] => { results := [.lit (.bool true)], args := [d1, d2] }
  | _ => none }
def treePutsRow : OpenClaim := { program := "ytpppgnphblbbcaa", sum := "5f45ccb9fe205c516a8b41d3133a7293e61f538da180484676160f805d1b4f9b", func := "warder/warderlaw04.TreePuts", spec := "treePuts", unfollowed := true, recurses := true, plainKeys := false, apart := false }
def TreePutsSaid : Prop := treePutsRow.holds Try.pinned (OpenSpec.ofChange treePutsSpec)

/-- ITS FALSE NEIGHBOUR: 'it returns false'. Refute it at one input. -/
def treePutsWrong : ChangeSpec := { name := "treePuts", fn := fun _ => fun
  | [d1, d2] => { results := [.lit (.bool false)], args := [d1, d2] }
  | _ => none }
def TreePutsWrongFalsely : Prop := treePutsRow.holds Try.pinned (OpenSpec.ofChange treePutsWrong)

/-- 'warderlaw04.TreeSame': WHATEVER THE INPUT: true; the input reads as it did. -/
def treeSameSpec : ChangeSpec := { name := "treeSame", fn := fun _ => fun
  | [d1, d2] => { results := [.lit (.bool true)], args := [d1, d2] }
  | _ => none }
def treeSameRow : OpenClaim := { program := "ytpppgnphblbbcaa", sum := "5f45ccb9fe205c516a8b41d3133a7293e61f538da180484676160f805d1b4f9b", func := "warder/warderlaw04.TreeSame", spec := "treeSame", unfollowed := true, recurses := true, plainKeys := false, apart := false }
def TreeSameSaid : Prop := treeSameRow.holds Try.pinned (OpenSpec.ofChange treeSameSpec)

/-- ITS FALSE NEIGHBOUR: 'it returns false'. Refute it at one input. -/
def treeSameWrong : ChangeSpec := { name := "treeSame", fn := fun _ => fun
  | [d1, d2] => { results := [.lit (.bool false)], args := [d1, d2] }
  | _ => none }
def TreeSameWrongFalsely : Prop := treeSameRow.holds Try.pinned (OpenSpec.ofChange treeSameWrong)

/-- 'warderlaw31.NormChecks': WHATEVER THE INPUT: true; the input reads as it did. -/
def normChecksSpec : ChangeSpec := { name := "normChecks", fn := fun _ => fun
  | [d] => { results := [.lit (.bool true)], args := [d] }
  | _ => none }
def normChecksRow : OpenClaim := { program := "ytpppgnphblbbcaa", sum := "5f45ccb9fe205c516a8b41d3133a7293e61f538da180484676160f805d1b4f9b", func := "warder/warderlaw31.NormChecks", spec := "normChecks", unfollowed := true, recurses := true, plainKeys := false, apart := false }
def NormChecksSaid : Prop := normChecksRow.holds Try.pinned (OpenSpec.ofChange normChecksSpec)

/-- ITS FALSE NEIGHBOUR: 'it returns false'. Refute it at one input. -/
def normChecksWrong : ChangeSpec := { name := "normChecks", fn := fun _ => fun
  | [d] => { results := [.lit (.bool false)], args := [d] }
  | _ => none }
def NormChecksWrongFalsely : Prop := normChecksRow.holds Try.pinned (OpenSpec.ofChange normChecksWrong)

/-- 'warderlaw31.NormFew': WHATEVER THE INPUT: true; the input reads as it did. -/
def normFewSpec : ChangeSpec := { name := "normFew", fn := fun _ => fun
  | [d] => { results := [.lit (.bool true)], args := [d] }
  | _ => none }
def normFewRow : OpenClaim := { program := "ytpppgnphblbbcaa", sum := "5f45ccb9fe205c516a8b41d3133a7293e61f538da180484676160f805d1b4f9b", func := "warder/warderlaw31.NormFew", spec := "normFew", unfollowed := true, recurses := true, plainKeys := false, apart := false }
def NormFewSaid : Prop := normFewRow.holds Try.pinned (OpenSpec.ofChange normFewSpec)

/-- ITS FALSE NEIGHBOUR: 'it returns false'. Refute it at one input. -/
def normFewWrong : ChangeSpec := { name := "normFew", fn := fun _ => fun
  | [d] => { results := [.lit (.bool false)], args := [d] }
  | _ => none }
def NormFewWrongFalsely : Prop := normFewRow.holds Try.pinned (OpenSpec.ofChange normFewWrong)

/-- 'warderlaw11.BindFits': WHATEVER THE INPUT: true; the input reads as it did. -/
def bindFitsSpec : ChangeSpec := { name := "bindFits", fn := fun _ => fun
  | [d1, d2, d3] => { results := [.lit (.bool true)], args := [d1, d2, d3] }
  | _ => none }
def bindFitsRow : OpenClaim := { program := "ytpppgnphblbbcaa", sum := "5f45ccb9fe205c516a8b41d3133a7293e61f538da180484676160f805d1b4f9b", func := "warder/warderlaw11.BindFits", spec := "bindFits", unfollowed := true, recurses := true, plainKeys := false, apart := false }
def BindFitsSaid : Prop := bindFitsRow.holds Try.pinned (OpenSpec.ofChange bindFitsSpec)

/-- ITS FALSE NEIGHBOUR: 'it returns false'. Refute it at one input. -/
def bindFitsWrong : ChangeSpec := { name := "bindFits", fn := fun _ => fun
  | [d1, d2, d3] => { results := [.lit (.bool false)], args := [d1, d2, d3] }
  | _ => none }
def BindFitsWrongFalsely : Prop := bindFitsRow.holds Try.pinned (OpenSpec.ofChange bindFitsWrong)

/- THE SECOND FORM. 'bulk': how many values and letters a reading holds, each counted each time it is reached (what is shared counts as often as it is met; a slice's spare places count too). A statement '..UptoSaid' is the law's where the arguments, and the package variables that the reading takes, are together of bulk at most 1048576: NARROWER than '..Said'. Prove '..Said' where nothing that the law and all that it calls make is longer than what came in: it says more and counts as full. Else prove '..UptoSaid'. A law counts once. -/
mutual
def uptoBulk {H : Type} : DataW H → Nat
  | .lit (.string bytes) => bytes.length + 1
  | .lit _ => 1
  | .nil => 1
  | .ptr d => uptoBulk d + 1
  | .slice elems spare => uptoBulkAll elems + uptoBulkAll spare + 1
  | .agg parts => uptoBulkAll parts + 1
  | .iface _ d => uptoBulk d + 1
  | .map entries => uptoBulkEntries entries + 1
  | .held _ => 1
def uptoBulkAll {H : Type} : List (DataW H) → Nat
  | [] => 0
  | d :: r => uptoBulk d + uptoBulkAll r
def uptoBulkEntries {H : Type} : List (Lit × DataW H) → Nat
  | [] => 0
  | x :: r => uptoBulkEntry x + uptoBulkEntries r
def uptoBulkEntry {H : Type} : Lit × DataW H → Nat
  | (.string bytes, d) => bytes.length + uptoBulk d + 1
  | (_, d) => uptoBulk d + 1
 end
def uptoSmall : (H : Type) → List (DataW H) → Bool := fun _ ds => decide (uptoBulkAll ds ≤ 1048576)
def OpenSpec.upto (s : _root_.Go.ChangeSpec) : _root_.Go.OpenSpec := { _root_.Go.OpenSpec.ofChange s with cond := some uptoSmall }

/-- 'warderlaw09.NamesBack', WHERE WHAT IT READS IS OF BULK AT MOST 1048576: true; the input reads as it did. -/
def namesBackUptoRow : OpenClaim := { program := "ytpppgnphblbbcaa", sum := "5f45ccb9fe205c516a8b41d3133a7293e61f538da180484676160f805d1b4f9b", func := "warder/warderlaw09.NamesBack", spec := "namesBack", plainKeys := false, apart := false, narrowed := true }
def NamesBackUptoSaid : Prop := namesBackUptoRow.holds Try.pinned (OpenSpec.upto namesBackSpec)

/-- 'warderlaw09.NamesFew', WHERE WHAT IT READS IS OF BULK AT MOST 1048576: true; the input reads as it did. -/
def namesFewUptoRow : OpenClaim := { program := "ytpppgnphblbbcaa", sum := "5f45ccb9fe205c516a8b41d3133a7293e61f538da180484676160f805d1b4f9b", func := "warder/warderlaw09.NamesFew", spec := "namesFew", plainKeys := false, apart := false, narrowed := true }
def NamesFewUptoSaid : Prop := namesFewUptoRow.holds Try.pinned (OpenSpec.upto namesFewSpec)

/-- 'warderlaw09.NamesFinds', WHERE WHAT IT READS IS OF BULK AT MOST 1048576: true; the input reads as it did. -/
def namesFindsUptoRow : OpenClaim := { program := "ytpppgnphblbbcaa", sum := "5f45ccb9fe205c516a8b41d3133a7293e61f538da180484676160f805d1b4f9b", func := "warder/warderlaw09.NamesFinds", spec := "namesFinds", plainKeys := false, apart := false, narrowed := true }
def NamesFindsUptoSaid : Prop := namesFindsUptoRow.holds Try.pinned (OpenSpec.upto namesFindsSpec)

/-- 'warderlaw11.BindFormulas', WHERE WHAT IT READS IS OF BULK AT MOST 1048576: true; the input reads as it did. -/
def bindFormulasUptoRow : OpenClaim := { program := "ytpppgnphblbbcaa", sum := "5f45ccb9fe205c516a8b41d3133a7293e61f538da180484676160f805d1b4f9b", func := "warder/warderlaw11.BindFormulas", spec := "bindFormulas", unfollowed := true, recurses := true, plainKeys := false, apart := false, narrowed := true }
def BindFormulasUptoSaid : Prop := bindFormulasUptoRow.holds Try.pinned (OpenSpec.upto bindFormulasSpec)

/-- 'warderlaw04.TreeChecks', WHERE WHAT IT READS IS OF BULK AT MOST 1048576: true; the input reads as it did. -/
def treeChecksUptoRow : OpenClaim := { program := "ytpppgnphblbbcaa", sum := "5f45ccb9fe205c516a8b41d3133a7293e61f538da180484676160f805d1b4f9b", func := "warder/warderlaw04.TreeChecks", spec := "treeChecks", unfollowed := true, recurses := true, plainKeys := false, apart := false, narrowed := true }
def TreeChecksUptoSaid : Prop := treeChecksUptoRow.holds Try.pinned (OpenSpec.upto treeChecksSpec)

/-- 'warderlaw04.TreeParts', WHERE WHAT IT READS IS OF BULK AT MOST 1048576: true; the input reads as it did. -/
def treePartsUptoRow : OpenClaim := { program := "ytpppgnphblbbcaa", sum := "5f45ccb9fe205c516a8b41d3133a7293e61f538da180484676160f805d1b4f9b", func := "warder/warderlaw04.TreeParts", spec := "treeParts", unfollowed := true, recurses := true, plainKeys := false, apart := false, narrowed := true }
def TreePartsUptoSaid : Prop := treePartsUptoRow.holds Try.pinned (OpenSpec.upto treePartsSpec)

/-- 'warderlaw04.TreeNests', WHERE WHAT IT READS IS OF BULK AT MOST 1048576: true; the input reads as it did. -/
def treeNestsUptoRow : OpenClaim := { program := "ytpppgnphblbbcaa", sum := "5f45ccb9fe205c516a8b41d3133a7293e61f538da180484676160f805d1b4f9b", func := "warder/warderlaw04.TreeNests", spec := "treeNests", unfollowed := true, recurses := true, plainKeys := false, apart := false, narrowed := true }
def TreeNestsUptoSaid : Prop := treeNestsUptoRow.holds Try.pinned (OpenSpec.upto treeNestsSpec)

/-- 'warderlaw04.TreeArity', WHERE WHAT IT READS IS OF BULK AT MOST 1048576: true; the input reads as it did. -/
def treeArityUptoRow : OpenClaim := { program := "ytpppgnphblbbcaa", sum := "5f45ccb9fe205c516a8b41d3133a7293e61f538da180484676160f805d1b4f9b", func := "warder/warderlaw04.TreeArity", spec := "treeArity", unfollowed := true, recurses := true, plainKeys := false, apart := false, narrowed := true }
def TreeArityUptoSaid : Prop := treeArityUptoRow.holds Try.pinned (OpenSpec.upto treeAritySpec)

/-- 'warderlaw04.TreePuts', WHERE WHAT IT READS IS OF BULK AT MOST 1048576: true; the input reads as it did. -/
def treePutsUptoRow : OpenClaim := { program := "ytpppgnphblbbcaa", sum := "5f45ccb9fe205c516a8b41d3133a7293e61f538da180484676160f805d1b4f9b", func := "warder/warderlaw04.TreePuts", spec := "treePuts", unfollowed := true, recurses := true, plainKeys := false, apart := false, narrowed := true }
def TreePutsUptoSaid : Prop := treePutsUptoRow.holds Try.pinned (OpenSpec.upto treePutsSpec)

/-- 'warderlaw04.TreeSame', WHERE WHAT IT READS IS OF BULK AT MOST 1048576: true; the input reads as it did. -/
def treeSameUptoRow : OpenClaim := { program := "ytpppgnphblbbcaa", sum := "5f45ccb9fe205c516a8b41d3133a7293e61f538da180484676160f805d1b4f9b", func := "warder/warderlaw04.TreeSame", spec := "treeSame", unfollowed := true, recurses := true, plainKeys := false, apart := false, narrowed := true }
def TreeSameUptoSaid : Prop := treeSameUptoRow.holds Try.pinned (OpenSpec.upto treeSameSpec)

/-- 'warderlaw31.NormChecks', WHERE WHAT IT READS IS OF BULK AT MOST 1048576: true; the input reads as it did. -/
def normChecksUptoRow : OpenClaim := { program := "ytpppgnphblbbcaa", sum := "5f45ccb9fe205c516a8b41d3133a7293e61f538da180484676160f805d1b4f9b", func := "warder/warderlaw31.NormChecks", spec := "normChecks", unfollowed := true, recurses := true, plainKeys := false, apart := false, narrowed := true }
def NormChecksUptoSaid : Prop := normChecksUptoRow.holds Try.pinned (OpenSpec.upto normChecksSpec)

/-- 'warderlaw31.NormFew', WHERE WHAT IT READS IS OF BULK AT MOST 1048576: true; the input reads as it did. -/
def normFewUptoRow : OpenClaim := { program := "ytpppgnphblbbcaa", sum := "5f45ccb9fe205c516a8b41d3133a7293e61f538da180484676160f805d1b4f9b", func := "warder/warderlaw31.NormFew", spec := "normFew", unfollowed := true, recurses := true, plainKeys := false, apart := false, narrowed := true }
def NormFewUptoSaid : Prop := normFewUptoRow.holds Try.pinned (OpenSpec.upto normFewSpec)

/-- 'warderlaw11.BindFits', WHERE WHAT IT READS IS OF BULK AT MOST 1048576: true; the input reads as it did. -/
def bindFitsUptoRow : OpenClaim := { program := "ytpppgnphblbbcaa", sum := "5f45ccb9fe205c516a8b41d3133a7293e61f538da180484676160f805d1b4f9b", func := "warder/warderlaw11.BindFits", spec := "bindFits", unfollowed := true, recurses := true, plainKeys := false, apart := false, narrowed := true }
def BindFitsUptoSaid : Prop := bindFitsUptoRow.holds Try.pinned (OpenSpec.upto bindFitsSpec)

end Rows
end Go.Proofs.Ytpppgnphblbbcaa
