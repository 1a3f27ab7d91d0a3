/- From a contract 'it returns true, and nothing that was there has turned' to a law's row: once for all laws of this program. -/
import Derived.Test.YtpppgnphblbbcaaRows
import Derived.ProofKit
import Derived.WalkKit
import Derived.OpenShut
import Derived.ShutString
import Derived.ChangeOld
import Derived.Below
import Derived.SizedLaws
namespace Go.Proofs.Ytpppgnphblbbcaa
open Go.ChangeShapes Go.WideShapes Go.ChangeAt Go.RowKit

theorem own : ownKnob Try.prog.godebug = none := by kernel_rfl
theorem laidOut : laidOutB Try.prog = true := by kernel_rfl

/-- All arguments read behind the call as before it. -/
theorem below_trodAll {H : Type} {enc : TypeId × Value → H} {P : Program} (hl : laidOutB P = true) {W W' : World} (hb : Below W.heap.size W W') :
    ∀ (ts : List TypeId) (vs : List Value) (ds : List (DataW H)) (ps : List MemPlace), (∀ t ∈ ts, P.readableRec t = true ∧ t < P.types.size) →
    DataW.TrodAll enc P W 0 (fun _ => true) true ts vs ds ps → (∀ x ∈ ps, x.block < W.heap.size) → DataW.TrodAll enc P W' 0 (fun b => decide (b < W.heap.size)) true ts vs ds ps
  | [], vs, ds, ps, _, h, _ => by
    obtain ⟨rfl, rfl, rfl⟩ := trodAll_nil h
    exact trodAll_mk0
  | t :: ts, vs, ds, ps, ht, h, hlt => by
    obtain ⟨v, vs', d, ds', p, q, rfl, rfl, rfl, h0, h1⟩ := trodAll_cons h
    obtain ⟨hr, hs⟩ := ht t List.mem_cons_self
    exact trodAll_cons_mk (Below.trod hl hr hs h0 hb fun x hx => hlt x (List.mem_append.2 (.inl hx)))
      (below_trodAll hl hb ts vs' ds' q (fun t' h' => ht t' (List.mem_cons_of_mem _ h')) h1 fun x hx => hlt x (List.mem_append.2 (.inr hx)))

theorem trodAll_len {H : Type} {enc : TypeId × Value → H} {P : Program} {W : World} {base : Nat} {sp : Nat → Bool} {held : Bool} : ∀ {ts : List TypeId} {vs : List Value} {ds : List (DataW H)} {ps : List MemPlace},
    DataW.TrodAll enc P W base sp held ts vs ds ps → ds.length = ts.length
  | [], _, _, _, h => by obtain ⟨_, rfl, _⟩ := trodAll_nil h; rfl
  | t :: ts, _, _, _, h => by
    obtain ⟨v, vs', d, ds', p, q, _, rfl, _, _, h1⟩ := trodAll_cons h
    simp [trodAll_len h1]

/-- What a law's walk is told of its arguments. -/
def Told {H : Type} (enc : TypeId × Value → H) (W : World) (base : Nat) (ts : List TypeId) (args : Array Value) (ds : List (DataW H)) (p : List MemPlace) : Prop :=
  (∀ (j : Nat) t v, ts[j]? = some t → args[j]? = some v → Value.okWide Try.prog W .any base t v) ∧ DataW.TrodAll enc Try.prog W 0 (fun _ => true) true ts args.toList ds p ∧
  (DataW.weightsEach Try.prog ts ds).all (· ≤ reachBytes) = true

set_option maxRecDepth 100000 in
theorem law_lifted {os : Os} (started : os.Started) {H : Type} (enc : TypeId × Value → H) (f : FuncId) (fn : Func) (s : ChangeSpec) (ts : List TypeId)
    (noInit : Try.checked.prog.inits.idxOf? f = none) (hfn : Try.checked.prog.funcs[f]? = some fn) (hts : fn.params.toList = ts) (hvars : s.vars = []) (hres : fn.resultTypes = #[4])
    (hfnp : ∀ i : Nat, fn.params[i]? = ts[i]?)
    (hs : ∀ ds : List (DataW H), ds.length = ts.length → s.fn H ds = { results := [.lit (.bool true)], args := ds })
    (hread : ∀ t ∈ ts, Try.prog.readableRec t = true ∧ t < Try.prog.types.size)
    (witness : ∃ (w : World) (tape : Tape) (i : Input), w.os = os ∧ (w.forCall tape i).Shaped Try.checked.prog ∧ i.vars = [] ∧ Input.okWide Try.checked.prog (w.forCall tape i) .any w.heap.size f i ∧
      s.pre6 enc Try.checked.prog fn [] false (w.forCall tape i).memory i.args ∧ ({} : Assume).holds Try.checked.prog (lone (Frame.enter Try.checked.prog f i.args .normal) [] (w.forCall tape i)))
    (contract : ∀ (W : World) (base : Nat) (args : Array Value) (ds : List (DataW H)) (p : List MemPlace), Told enc W base ts args ds p →
      Calls Try.prog f args W fun e W' => e = .returned (.bool true) ∧ Below W.heap.size W W') :
    ReturnsInHanded {} Try.checked os f .any (s.pre6 enc Try.prog fn [] false) (s.post enc Try.prog fn false true false false) := by
  refine returnsInHanded_of_change_sized (C := Try.checked) own started noInit hfn witness ?_
  intro W base args ds gs before hval0 hW _ hsz0 _
  have hval : ∀ (j : Nat) t v, ts[j]? = some t → args[j]? = some v → Value.okWide Try.prog W .any base t v := fun j t v ht hv => hval0 j t v (by rw [hfnp]; exact ht) hv
  have hW' := hW
  have hlt := hW.lt
  obtain ⟨p, q, hA0, hV, rfl, _, _⟩ := hW
  have hA : DataW.TrodAll enc Try.prog W 0 (fun _ => true) true fn.params.toList args.toList ds p := hA0
  rw [hvars] at hV
  obtain ⟨rfl, rfl⟩ := trodVars_none hV
  have hsz : (DataW.weightsEach Try.prog ts ds).all (· ≤ reachBytes) = true := by
    have h := hsz0
    have e : s.plain.varTypes Try.checked.prog = [] := by simp [ChangeSpec.plain, hvars, DataSpec.varTypes]
    rw [e, List.append_nil, List.append_nil, hts] at h
    exact h
  rw [hts] at hA
  refine (contract W base args ds p ⟨hval, hA, hsz⟩).mono fun e W' ⟨he, hb⟩ => ?_
  subst he
  have hlen : ds.length = ts.length := trodAll_len hA
  have hfn' : s.fn H (ds ++ []) = { results := [.lit (.bool true)], args := ds } := by rw [List.append_nil]; exact hs ds hlen
  refine ⟨_, rfl, _, _, _, [], p, [], hW', ?_, ?_, ?_, hb.frame _, fun h => by cases h⟩
  · rw [hfn', hres]
    exact trodAll_mk1 (shut_bool Try.underlying4 _)
  · rw [hfn', hts]
    exact below_trodAll laidOut hb ts args.toList ds p hread hA (fun x hx => hlt x (by simpa using hx))
  · rw [hfn', hvars]
    rfl
end Go.Proofs.Ytpppgnphblbbcaa

