/- The walks of Same, of the library's EqualFunc under it, and of the reference's Same. -/
import Derived.Test.YtpppgnphblbbcaaTrAwake
import Derived.BigQuiet
namespace Go.Proofs.Ytpppgnphblbbcaa
open Go.RowKit

/-- Two items are the same, but for places. -/
def sameI (x y : Nm.Item) : Bool := x.op == y.op && (x.ln.toList == y.ln.toList && x.lnum == y.lnum) && (x.rn.toList == y.rn.toList && x.rnum == y.rnum) && x.name.toList == y.name.toList && x.user.toList == y.user.toList
theorem ret_bool {a b : Bool} (h : a = b) : Ending.returned (.bool a) = .returned (.bool b) := by rw [h]
set_option maxRecDepth 100000 in
set_option maxHeartbeats 2000000 in
theorem same1_any (w : World) (x y : Nm.Item) : Calls Try.prog 64 #[.agg (itemA x), .agg (itemA y)] w fun e w' => e = .returned (.bool (sameI x y)) ∧ Chg (fun _ => False) w w' := by
  unfold itemA
  go_enter Try.func64, Try.ntmps64
  go_wp2
  all_goals (go_ret; exact ⟨ret_bool (by simp [sameI, *]), ((Chg.refl _ w).alloc _).alloc _⟩)

def SameP (a b : List Nm.Item) : Prop := a.length = b.length ∧ ∀ (i : Nat) (x y : Nm.Item), a[i]? = some x → b[i]? = some y → sameI x y = true
noncomputable def sv (a b : List Nm.Item) : Bool := @decide (SameP a b) (Classical.propDecidable _)
theorem sv_true {a b : List Nm.Item} (h : SameP a b) : sv a b = true := by unfold sv; exact @decide_eq_true _ (Classical.propDecidable _) h
theorem sv_false {a b : List Nm.Item} (h : ¬ SameP a b) : sv a b = false := by unfold sv; exact @decide_eq_false _ (Classical.propDecidable _) h
theorem sameI_self (x : Nm.Item) : sameI x x = true := by simp [sameI]
theorem sameP_self (a : List Nm.Item) : SameP a a := ⟨rfl, fun i x y h1 h2 => by rw [h1] at h2; injection h2 with h2; subst h2; exact sameI_self x⟩
set_option maxRecDepth 100000 in
set_option maxHeartbeats 2000000 in
theorem equalFunc_any (w : World) (A B : Option Addr) (c d : Nat) (a b : List Nm.Item) (hla : a.length ≤ maxLen) (hlb : b.length ≤ maxLen) (hA : Rd w w.heap.size A (cellsI a)) (hB : Rd w w.heap.size B (cellsI b)) :
    Calls Try.prog 63 #[.slice A a.length c, .slice B b.length d, .func (.func 64) #[] #[]] w fun e w' => e = .returned (.bool (sv a b)) ∧ Chg (fun _ => False) w w' := by
  have HA := Lib.hid hA
  have HB := Lib.hid hB
  clear hA hB
  unfold maxLen at hla hlb
  by_cases hl : a.length = b.length
  · obtain ⟨n, hn⟩ : ∃ n, n = b.length := ⟨_, rfl⟩
    rw [hl, ← hn]
    rw [← hn] at hl hlb
    rw [hl] at hla
    have hlz : ((n : Int) == (n : Int)) = true := by simp
    have hlz2 : ((n : Int) != (n : Int)) = false := by simp
    replace hn := Lib.hid hn
    replace hl := Lib.hid hl
    go_enter Try.func63, Try.ntmps63
    go_wp2
    go_loopw [17] (fun i wr => ∃ j : Nat, j ≤ n ∧ i = .int .i64 j ∧ Hid (∀ (i : Nat) (x y : Nm.Item), i < j → a[i]? = some x → b[i]? = some y → sameI x y = true) ∧ Hid (Chg (fun _ => False) w wr)) (fun i _ => n - (intOf i).toNat)
    case atStart => exact ⟨0, Nat.zero_le _, rfl, Lib.hid (fun i x y h => by omega), Chg.refl _ _⟩
    case round =>
      obtain ⟨j, hj, rfl, hS, hC⟩ := hrel
      by_cases hlt : j < n
      · obtain ⟨x, hx⟩ : ∃ x, a[j]? = some x := ⟨_, List.getElem?_eq_getElem (by rw [hl.out]; exact hlt)⟩
        obtain ⟨y, hy⟩ : ∃ y, b[j]? = some y := ⟨_, List.getElem?_eq_getElem (by rw [← hn.out]; exact hlt)⟩
        obtain ⟨b1, o1, hA1, hb1, c0, c1, c2, c3, c4, c5, c6, c7, c8⟩ := item_at (HA.out.chg hC.out (Nat.le_refl _) (fun _ h => h.elim)) hx
        obtain ⟨b2, o2, hA2, hb2, e0, e1, e2, e3, e4, e5, e6, e7, e8⟩ := item_at (((HB.out.chg hC.out (Nat.le_refl _) (fun _ h => h.elim)).more hC.out.size).alloc (Nat.le_refl _) (.cells (itemA x) 70)) hy
        replace hb2 : b2 < wr.heap.size := hb2
        unfold itemA at e0 e1 e2 e3 e4 e5 e6 e7 e8
        subst hA1
        subst hA2
        replace hx := Lib.hid hx
        replace hy := Lib.hid hy
        obtain ⟨sb, hsb⟩ : ∃ sb, sb = sameI x y := ⟨_, rfl⟩
        have hcl := Lib.hid (fun w => same1_any w x y)
        rw [← hsb] at hcl
        unfold itemA at hcl
        cases sb with
        | true =>
          replace hsb := Lib.hid hsb
          go_wp2_with (go_at_call 64; refine (hcl.out _).mono ?_; rintro e w' ⟨rfl, h⟩; have HE := Lib.hid h; clear h)
          go_roundw
          case rel =>
            refine ⟨j + 1, by omega, by go_num, Lib.hid (fun i u v hi hu hv => ?_), Lib.hid (Chg.trans ((hC.out.alloc _).alloc _) HE.out (fun _ _ h => h))⟩
            rcases Nat.lt_or_ge i j with h | h
            · exact hS.out i u v h hu hv
            · obtain rfl : i = j := by omega
              rw [hx.out] at hu; rw [hy.out] at hv
              injection hu with hu; injection hv with hv
              subst hu; subst hv
              exact hsb.out.symm
          case measure => (simp [intOf] <;> omega)
        | false =>
          have hno : Hid (sv a b = false) := Lib.hid (sv_false fun h => by have := h.2 j x y hx.out hy.out; rw [← hsb] at this; cases this)
          clear hsb
          go_wp2_with (go_at_call 64; refine (hcl.out _).mono ?_; rintro e w' ⟨rfl, h⟩; have HE := Lib.hid h; clear h)
          go_ret
          exact ⟨by rw [hno.out]; rfl, Chg.trans ((hC.out.alloc _).alloc _) HE.out (fun _ _ h => h)⟩
      · obtain rfl : j = n := by omega
        have hyes : Hid (sv a b = true) := Lib.hid (sv_true ⟨by rw [hl.out, hn.out], fun i x y hx hy => hS.out i x y (by have := (List.getElem?_eq_some_iff.1 hy).1; rw [hn.out]; exact this) hx hy⟩)
        go_wp2
        go_ret
        exact ⟨by rw [hyes.out]; rfl, hC.out⟩
  · have hno : Hid (sv a b = false) := Lib.hid (sv_false fun h => hl h.1)
    have hlz : ((a.length : Int) == (b.length : Int)) = false := by rw [beq_eq_false_iff_ne]; omega
    have hlz2 : ((a.length : Int) != (b.length : Int)) = true := by rw [bne, hlz]; rfl
    clear hl
    go_enter Try.func63, Try.ntmps63
    go_wp2
    go_ret
    exact ⟨by rw [hno.out]; rfl, Chg.refl _ _⟩
set_option maxRecDepth 100000 in
set_option maxHeartbeats 2000000 in
theorem tsame_any (w : World) (A B : Option Addr) (c d : Nat) (a b : List Nm.Item) (hla : a.length ≤ maxLen) (hlb : b.length ≤ maxLen) (hA : Rd w w.heap.size A (cellsI a)) (hB : Rd w w.heap.size B (cellsI b)) :
    Calls Try.prog 45 #[.slice A a.length c, .slice B b.length d] w fun e w' => e = .returned (.bool (sv a b)) ∧ Chg (fun _ => False) w w' := by
  have hE := Lib.hid (equalFunc_any w A B c d a b hla hlb hA hB)
  clear hA hB
  go_enter Try.func45, Try.ntmps45
  go_wp2_with (go_at_call 63; refine hE.out.mono ?_; rintro e w' ⟨rfl, h⟩; have HC := Lib.hid h; clear h)
  go_ret
  exact ⟨rfl, HC.out⟩
end Go.Proofs.Ytpppgnphblbbcaa
