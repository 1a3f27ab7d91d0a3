/- The walks of Complete, the program's and the reference's. -/
import Derived.Test.YtfnpfkjdcchipaaModel
import Derived.BigQuiet
namespace Go.Proofs.Ytfnpfkjdcchipaa
open Go.RowKit

set_option maxRecDepth 100000 in
set_option maxHeartbeats 4000000 in
theorem com_any (w : World) (m : MC) (s : SC) (hG : Good w m s) : Calls Try.prog 14 #[.agg (mA m), .agg (sA s)] w fun e w' => e = .returned (.bool (com m s)) ∧ Chg (fun _ => False) w w' := by
  have hlen := hG.lens.2.2.2.2.2.2.2.1
  unfold maxLen at hlen
  have hb := (Boxes.new w m s).s
  have hC0 := ((Chg.refl (fun _ => False) w).alloc (.cells (mA m) 32)).alloc (.cells (sA s) 35)
  have HG := Lib.hid hG
  unfold mA sA at hb hC0
  unfold mA sA
  go_enter Try.func14, Try.ntmps14
  go_wp2_with fail
  obtain ⟨w1, hw1⟩ : ∃ w1, w1 = (w.alloc (.cells #[.slice m.aA m.nA m.cA, .slice m.aI m.nI m.cI, .slice m.aU m.nU m.cU, .slice m.aR m.ro.length m.cR, .slice m.aS m.nS m.cS, .slice m.aE m.ev.length m.cE, .slice m.aG m.gu.length m.cG, .slice m.aM m.mi.length m.cM, .slice m.aD m.so.length m.cD, .slice m.aO m.nO m.cO] 32)).alloc (.cells #[.slice s.aV s.nV s.cV, .int .i64 s.op, .int .i64 s.dn, .slice s.aD s.did.length s.cD, .slice s.aC s.cnt.length s.cC] 35) := ⟨_, rfl⟩
  rw [← hw1] at hb hC0 ⊢
  clear hw1
  have HB := Lib.hid hb
  have HC0 := Lib.hid hC0
  clear hb hC0 hG
  obtain ⟨g, hg⟩ : ∃ g, g = w.heap.size + 1 := ⟨_, rfl⟩
  rw [← hg] at HB ⊢
  clear hg
  go_loopw [10] (fun i wr => ∃ j : Nat, j ≤ m.mi.length ∧ i = .int .i64 j ∧ Hid (comUp m s j = false) ∧ Hid (Chg (fun _ => False) w1 wr)) (fun i _ => m.mi.length - (intOf i).toNat)
  case atStart => exact ⟨0, Nat.zero_le _, rfl, Lib.hid rfl, Chg.refl _ _⟩
  case round =>
    obtain ⟨j, hj, rfl, hU, hC⟩ := hrel
    by_cases hlt : j < m.mi.length
    · obtain ⟨x, hx⟩ : ∃ x, m.mi[j]? = some x := ⟨_, List.getElem?_eq_getElem hlt⟩
      obtain ⟨b1, o1, hA1, hb1, hc⟩ := row_at (f := miC) (C := 5) (fun _ => rfl) (by omega) (HG.out.mi.later (Chg.trans HC0.out hC.out (fun _ _ h => h)) (fun _ h => h.elim)) hx
      have c0 := hc 0 _ rfl
      have c1 := hc 1 _ rfl
      have c2 := hc 2 _ rfl
      have c3 := hc 3 _ rfl
      have c4 := hc 4 _ rfl
      rw [Nat.add_zero] at c0
      rw [hA1]
      clear hc
      have hB1 := HB.out.chg hC.out (fun h => h)
      have d2 : ∀ o : Obj, (wr.alloc o).cell? ⟨g, 2, none⟩ = some (.int .i64 s.dn) := fun o => by rw [(hB1.alloc o).cell]; rfl
      clear hB1
      have hs := Lib.hid (comUp_succ (s := s) hx)
      rw [hU.out, Bool.false_or] at hs
      have hyes := Lib.hid (fun h => comUp_true (s := s) hx h)
      clear hx hA1
      obtain ⟨fb, hfb⟩ : ∃ fb, fb = x.fin := ⟨_, rfl⟩
      rw [← hfb] at hs hyes c4
      clear hfb
      obtain ⟨hv, hhv⟩ : ∃ hv, hv = hasB s.dn j := ⟨_, rfl⟩
      rw [← hhv] at hs hyes
      replace hhv := Lib.hid hhv
      cases fb with
      | false =>
        rw [Bool.false_and] at hs
        go_wp2
        go_roundw
        case rel => exact ⟨j + 1, by omega, by go_num, hs, Lib.hid (hC.out.alloc _)⟩
        case measure => (simp [intOf] <;> omega)
      | true =>
        rw [Bool.true_and] at hs hyes
        cases hv with
        | false =>
          go_wp2_with (go_at_call 22; refine (has_any _ _ _).mono ?_; rintro e w' ⟨rfl, rfl⟩; rw [← hhv.out])
          go_roundw
          case rel => exact ⟨j + 1, by omega, by go_num, hs, Lib.hid (hC.out.alloc _)⟩
          case measure => (simp [intOf] <;> omega)
        | true =>
          have hyes2 := Lib.hid (hyes.out rfl)
          clear hyes
          go_wp2_with (go_at_call 22; refine (has_any _ _ _).mono ?_; rintro e w' ⟨rfl, rfl⟩; rw [← hhv.out])
          go_ret
          exact ⟨by rw [hyes2.out]; rfl, Chg.trans HC0.out (hC.out.alloc _) (fun _ _ h => h)⟩
    · obtain rfl : j = m.mi.length := by omega
      have hno : Hid (com m s = false) := hU
      clear hU
      go_wp2
      go_ret
      exact ⟨by rw [hno.out]; rfl, Chg.trans HC0.out hC.out (fun _ _ h => h)⟩
set_option maxRecDepth 100000 in
set_option maxHeartbeats 4000000 in
theorem refCom_any (w : World) (m : MC) (s : SC) (hG : Good w m s) : Calls Try.prog 15 #[.agg (mA m), .agg (sA s)] w fun e w' => e = .returned (.bool (com m s)) ∧ Chg (fun _ => False) w w' := by
  have hlen := hG.lens.2.2.2.2.2.2.2.1
  unfold maxLen at hlen
  have hb := Boxes.new w m s
  have hC0 := ((Chg.refl (fun _ => False) w).alloc (.cells (mA m) 32)).alloc (.cells (sA s) 35)
  have HG := Lib.hid hG
  unfold mA sA
  go_enter Try.func15, Try.ntmps15
  go_wp2_with fail
  obtain ⟨w1, hw1⟩ : ∃ w1, w1 = (w.alloc (.cells (mA m) 32)).alloc (.cells (sA s) 35) := ⟨_, rfl⟩
  rw [← hw1] at hb hC0
  unfold mA sA at hw1
  rw [← hw1]
  clear hw1
  have HB := Lib.hid hb
  have HC0 := Lib.hid hC0
  clear hb hC0 hG
  obtain ⟨k, hk⟩ : ∃ k, k = w.heap.size + 1 := ⟨_, rfl⟩
  obtain ⟨g, hg⟩ : ∃ g, g = w.heap.size := ⟨_, rfl⟩
  rw [← hk, ← hg] at HB
  rw [← hk, ← hg]
  clear hk hg
  have HD := Lib.hid HG.out.dnR
  go_loopw [5] (fun i wr => ∃ j : Nat, j ≤ m.mi.length ∧ i = .int .i64 j ∧ Hid (comUp m s j = false) ∧ Hid (Chg (fun _ => False) w1 wr)) (fun i _ => m.mi.length - (intOf i).toNat)
  case atStart => exact ⟨0, Nat.zero_le _, rfl, Lib.hid rfl, Chg.refl _ _⟩
  case round =>
    obtain ⟨j, hj, rfl, hU, hC⟩ := hrel
    have hBr := HB.out.later hC.out
    obtain ⟨-, -, -, -, -, -, -, e7, -, -⟩ := mcells hBr.m
    obtain ⟨-, -, f2, -, -⟩ := scells hBr.s
    by_cases hlt : j < m.mi.length
    · obtain ⟨x, hx⟩ : ∃ x, m.mi[j]? = some x := ⟨_, List.getElem?_eq_getElem hlt⟩
      obtain ⟨b1, o1, hA1, hb1, hc⟩ := row_at (f := miC) (C := 5) (fun _ => rfl) (by omega) (HG.out.mi.later (Chg.trans HC0.out hC.out (fun _ _ h => h)) (fun _ h => h.elim)) hx
      have c4 := hc 4 _ rfl
      rw [hA1] at e7 ⊢
      clear hc
      have hs := Lib.hid (comUp_succ (s := s) hx)
      rw [hU.out, Bool.false_or] at hs
      have hyes := Lib.hid (fun h => comUp_true (s := s) hx h)
      clear hx hA1
      obtain ⟨fb, hfb⟩ : ∃ fb, fb = x.fin := ⟨_, rfl⟩
      rw [← hfb] at hs hyes c4
      clear hfb
      obtain ⟨hv, hhv⟩ : ∃ hv, hv = hasB s.dn j := ⟨_, rfl⟩
      rw [← hhv] at hs hyes
      replace hhv := Lib.hid hhv
      clear hBr
      cases fb with
      | false =>
        rw [Bool.false_and] at hs
        go_wp2
        go_roundw
        case rel => exact ⟨j + 1, by omega, by go_num, hs, hC⟩
        case measure => (simp [intOf] <;> omega)
      | true =>
        rw [Bool.true_and] at hs hyes
        cases hv with
        | false =>
          go_wp2_with (go_at_call 23; refine (refHas_any _ _ _ HD.out).mono ?_; rintro e w' ⟨rfl, rfl⟩; rw [← hhv.out])
          go_roundw
          case rel => exact ⟨j + 1, by omega, by go_num, hs, hC⟩
          case measure => (simp [intOf] <;> omega)
        | true =>
          have hyes2 := Lib.hid (hyes.out rfl)
          clear hyes
          go_wp2_with (go_at_call 23; refine (refHas_any _ _ _ HD.out).mono ?_; rintro e w' ⟨rfl, rfl⟩; rw [← hhv.out])
          go_ret
          exact ⟨by rw [hyes2.out]; rfl, Chg.trans HC0.out hC.out (fun _ _ h => h)⟩
    · obtain rfl : j = m.mi.length := by omega
      have hno : Hid (com m s = false) := hU
      clear hU hBr f2
      go_wp2
      go_ret
      exact ⟨by rw [hno.out]; rfl, Chg.trans HC0.out hC.out (fun _ _ h => h)⟩
end Go.Proofs.Ytfnpfkjdcchipaa
