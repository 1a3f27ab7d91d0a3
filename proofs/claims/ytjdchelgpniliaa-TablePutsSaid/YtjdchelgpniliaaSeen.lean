/- The texts of a list, each once, in the order of their first places. No program. -/
import Derived.Test.YtjdchelgpniliaaPlain
namespace Tb
def addT (acc : List ByteArray) (s : ByteArray) : List ByteArray := if 0 ≤ idx acc s then acc else acc ++ [s]
def seen (l : List ByteArray) : List ByteArray := l.foldl addT []
theorem seen_nil : seen [] = [] := rfl
theorem seen_snoc (l : List ByteArray) (s : ByteArray) : seen (l ++ [s]) = addT (seen l) s := by
  unfold seen; rw [List.foldl_append, List.foldl_cons, List.foldl_nil]
theorem addT_old {acc : List ByteArray} {s : ByteArray} (h : 0 ≤ idx acc s) : addT acc s = acc := by unfold addT; rw [if_pos h]
theorem addT_new {acc : List ByteArray} {s : ByteArray} (h : idx acc s < 0) : addT acc s = acc ++ [s] := by unfold addT; rw [if_neg (by omega)]
theorem fold_len (l : List ByteArray) : ∀ acc, (l.foldl addT acc).length ≤ acc.length + l.length := by
  induction l with
  | nil => intro acc; simp
  | cons s l ih =>
    intro acc
    have h := ih (addT acc s)
    have h2 : (addT acc s).length ≤ acc.length + 1 := by unfold addT; split <;> simp
    simp only [List.foldl_cons, List.length_cons]
    omega
theorem seen_len (l : List ByteArray) : (seen l).length ≤ l.length := by
  have := fold_len l []
  simpa [seen] using this
theorem seen_take {ts : List ByteArray} {k : Nat} (hk : k < ts.length) : seen (ts.take (k + 1)) = addT (seen (ts.take k)) ts[k] := by
  rw [← seen_snoc, List.take_succ_eq_append_getElem hk]
end Tb
