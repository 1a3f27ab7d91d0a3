/- The walk of the reference's Same. -/
import Derived.Test.YtpppgnphblbbcaaTrSame
namespace Go.Proofs.Ytpppgnphblbbcaa
open Go.RowKit

set_option maxRecDepth 100000 in
set_option maxHeartbeats 8000000 in
theorem refSame_any (w : World) (A B : Option Addr) (c d : Nat) (a b : List Nm.Item) (hla : a.length ≤ maxLen) (hlb : b.length ≤ maxLen) (hA : Rd w w.heap.size A (cellsI a)) (hB : Rd w w.heap.size B (cellsI b)) :
    Calls Try.prog 46 #[.slice A a.length c, .slice B b.length d] w fun e w' => e = .returned (.bool (sv a b)) ∧ Chg (fun _ => False) w w' := by
  have HA := Lib.hid hA
  have HB := Lib.hid hB
  clear hA hB
  unfold maxLen at hla hlb
  by_cases hl : a.length = b.length
  · obtain ⟨n, hn⟩ : ∃ n, n = b.length := ⟨_, rfl⟩
    rw [hl, ← hn]
    rw [← hn] at hl hlb
    rw [hl] at hla
    have hlz : ((n : Int) == (n : Int)) = true := by simp
    have hlz2 : ((n : Int) != (n : Int)) = false := by simp
    replace hn := Lib.hid hn
    replace hl := Lib.hid hl
    go_enter Try.func46, Try.ntmps46
    go_wp2
    go_loopw [5] (fun i wr => ∃ j : Nat, j ≤ n ∧ i = .int .i64 j ∧ Hid (∀ (i : Nat) (x y : Nm.Item), i < j → a[i]? = some x → b[i]? = some y → sameI x y = true) ∧ Hid (Chg (fun _ => False) w wr)) (fun i _ => n - (intOf i).toNat)
    case atStart => exact ⟨0, Nat.zero_le _, rfl, Lib.hid (fun i x y h => by omega), Chg.refl _ _⟩
    case round =>
      obtain ⟨j, hj, rfl, hS, hC⟩ := hrel
      by_cases hlt : j < n
      · obtain ⟨x, hx⟩ : ∃ x, a[j]? = some x := ⟨_, List.getElem?_eq_getElem (by rw [hl.out]; exact hlt)⟩
        obtain ⟨y, hy⟩ : ∃ y, b[j]? = some y := ⟨_, List.getElem?_eq_getElem (by rw [← hn.out]; exact hlt)⟩
        obtain ⟨b1, o1, hA1, hb1, c0, c1, c2, c3, c4, c5, c6, c7, c8⟩ := item_at (HA.out.chg hC.out (Nat.le_refl _) (fun _ h => h.elim)) hx
        obtain ⟨b2, o2, hA2, hb2, e0, e1, e2, e3, e4, e5, e6, e7, e8⟩ := item_at (HB.out.chg hC.out (Nat.le_refl _) (fun _ h => h.elim)) hy
        subst hA1
        subst hA2
        replace hx := Lib.hid hx
        replace hy := Lib.hid hy
        obtain ⟨p0, p1, p2, p3, p4, p5, p6, p7, p8⟩ := x
        obtain ⟨q0, q1, q2, q3, q4, q5, q6, q7, q8⟩ := y
        dsimp only at c0 c1 c2 c3 c4 c5 c6 c7 c8 e0 e1 e2 e3 e4 e5 e6 e7 e8
        clear c7 c8 e7 e8
        by_cases h : ¬ p0 = q0
        · have hb : (p0 == q0) = false := by rw [beq_eq_false_iff_ne]; exact h
          have hno : Hid (sv a b = false) := Lib.hid (sv_false fun h2 => by have h3 := h2.2 j _ _ hx.out hy.out; simp [sameI, h] at h3)
          clear h
          have hb2 : (p0 != q0) = true := by simpa using hb
          go_wp2_with fail
          go_quiet (fail)
          have HE := Lib.hid (hC.out.drewN nq)
          go_wp2
          go_ret
          exact ⟨by rw [hno.out]; rfl, HE.out⟩
        replace h := Decidable.not_not.1 h
        subst h
        by_cases h : ¬ p1 = q1
        · have hb : (p1.toList == q1.toList) = false := by rw [beq_eq_false_iff_ne]; exact fun e => h (bytes_eq e)
          have hno : Hid (sv a b = false) := Lib.hid (sv_false fun h2 => by have h3 := h2.2 j _ _ hx.out hy.out; simp [sameI, hb] at h3)
          clear h
          go_wp2_with fail
          go_quiet (fail)
          have HE := Lib.hid (hC.out.drewN nq)
          go_wp2
          go_ret
          exact ⟨by rw [hno.out]; rfl, HE.out⟩
        replace h := Decidable.not_not.1 h
        subst h
        by_cases h : ¬ p2 = q2
        · have hb : (p2 == q2) = false := by rw [beq_eq_false_iff_ne]; exact h
          have hno : Hid (sv a b = false) := Lib.hid (sv_false fun h2 => by have h3 := h2.2 j _ _ hx.out hy.out; simp [sameI, h] at h3)
          clear h
          have hb2 : (p2 != q2) = true := by simpa using hb
          go_wp2_with fail
          go_quiet (fail)
          have HE := Lib.hid (hC.out.drewN nq)
          go_wp2
          go_ret
          exact ⟨by rw [hno.out]; rfl, HE.out⟩
        replace h := Decidable.not_not.1 h
        subst h
        by_cases h : ¬ p3 = q3
        · have hb : (p3.toList == q3.toList) = false := by rw [beq_eq_false_iff_ne]; exact fun e => h (bytes_eq e)
          have hno : Hid (sv a b = false) := Lib.hid (sv_false fun h2 => by have h3 := h2.2 j _ _ hx.out hy.out; simp [sameI, hb] at h3)
          clear h
          go_wp2_with fail
          go_quiet (fail)
          have HE := Lib.hid (hC.out.drewN nq)
          go_wp2
          go_ret
          exact ⟨by rw [hno.out]; rfl, HE.out⟩
        replace h := Decidable.not_not.1 h
        subst h
        by_cases h : ¬ p4 = q4
        · have hb : (p4 == q4) = false := by rw [beq_eq_false_iff_ne]; exact h
          have hno : Hid (sv a b = false) := Lib.hid (sv_false fun h2 => by have h3 := h2.2 j _ _ hx.out hy.out; simp [sameI, h] at h3)
          clear h
          have hb2 : (p4 != q4) = true := by simpa using hb
          go_wp2_with fail
          go_quiet (fail)
          have HE := Lib.hid (hC.out.drewN nq)
          go_wp2
          go_ret
          exact ⟨by rw [hno.out]; rfl, HE.out⟩
        replace h := Decidable.not_not.1 h
        subst h
        by_cases h : ¬ p5 = q5
        · have hb : (p5.toList == q5.toList) = false := by rw [beq_eq_false_iff_ne]; exact fun e => h (bytes_eq e)
          have hno : Hid (sv a b = false) := Lib.hid (sv_false fun h2 => by have h3 := h2.2 j _ _ hx.out hy.out; simp [sameI, hb] at h3)
          clear h
          go_wp2_with fail
          go_quiet (fail)
          have HE := Lib.hid (hC.out.drewN nq)
          go_wp2
          go_ret
          exact ⟨by rw [hno.out]; rfl, HE.out⟩
        replace h := Decidable.not_not.1 h
        subst h
        by_cases h : ¬ p6 = q6
        · have hb : (p6.toList == q6.toList) = false := by rw [beq_eq_false_iff_ne]; exact fun e => h (bytes_eq e)
          have hno : Hid (sv a b = false) := Lib.hid (sv_false fun h2 => by have h3 := h2.2 j _ _ hx.out hy.out; simp [sameI, hb] at h3)
          clear h
          go_wp2_with fail
          go_quiet (fail)
          have HE := Lib.hid (hC.out.drewN nq)
          go_wp2
          go_ret
          exact ⟨by rw [hno.out]; rfl, HE.out⟩
        replace h := Decidable.not_not.1 h
        subst h
        have hsb : Hid (sameI ⟨p0, p1, p2, p3, p4, p5, p6, p7, p8⟩ ⟨p0, p1, p2, p3, p4, p5, p6, q7, q8⟩ = true) := Lib.hid (by simp [sameI])
        have t0 : (p0 == p0) = true := by simp
        have t1 : (p1.toList == p1.toList) = true := by simp
        have t2 : (p2 == p2) = true := by simp
        have t3 : (p3.toList == p3.toList) = true := by simp
        have t4 : (p4 == p4) = true := by simp
        have t5 : (p5.toList == p5.toList) = true := by simp
        have t6 : (p6.toList == p6.toList) = true := by simp
        have t7 : (p0 != p0) = false := by simp
        go_wp2_with fail
        go_quiet (fail)
        have HE := Lib.hid (hC.out.drewN nq)
        go_wp2
        go_roundw
        case rel =>
          refine ⟨j + 1, by omega, by go_num, Lib.hid (fun i u v hi hu hv => ?_), HE⟩
          rcases Nat.lt_or_ge i j with h | h
          · exact hS.out i u v h hu hv
          · obtain rfl : i = j := by omega
            rw [hx.out] at hu; rw [hy.out] at hv
            injection hu with hu; injection hv with hv
            subst hu; subst hv
            exact hsb.out
        case measure => (simp [intOf] <;> omega)
      · obtain rfl : j = n := by omega
        have hyes : Hid (sv a b = true) := Lib.hid (sv_true ⟨by rw [hl.out, hn.out], fun i x y hx hy => hS.out i x y (by have := (List.getElem?_eq_some_iff.1 hy).1; rw [hn.out]; exact this) hx hy⟩)
        go_wp2
        go_ret
        exact ⟨by rw [hyes.out]; rfl, hC.out⟩
  · have hno : Hid (sv a b = false) := Lib.hid (sv_false fun h => hl h.1)
    have hlz : ((a.length : Int) == (b.length : Int)) = false := by rw [beq_eq_false_iff_ne]; omega
    have hlz2 : ((a.length : Int) != (b.length : Int)) = true := by rw [bne, hlz]; rfl
    clear hl
    go_enter Try.func46, Try.ntmps46
    go_wp2
    go_ret
    exact ⟨by rw [hno.out]; rfl, Chg.refl _ _⟩
end Go.Proofs.Ytpppgnphblbbcaa
