/- The walks of the two Great, which bound what a law looks at. -/
import Derived.Test.YtfnpfkjdcchipaaModel
import Derived.BigQuiet
namespace Go.Proofs.Ytfnpfkjdcchipaa
open Go.RowKit

/-- What Great says: yes, or no, and then these are few. -/
def GreatR (m : MC) (e : Ending) : Prop := e = .returned (.bool true) ∨ (e = .returned (.bool false) ∧ m.nU ≤ 10 ∧ m.nS ≤ 10)
theorem bool_or {v : Value} {b : Bool} (h : v = .bool b) : Ending.returned v = .returned (.bool true) ∨ Ending.returned v = .returned (.bool false) := by
  rw [h]; cases b
  · exact .inr rfl
  · exact .inl rfl
set_option maxRecDepth 100000 in
set_option maxHeartbeats 4000000 in
theorem greatS_any (w : World) (m : MC) (s : SC) (hG : Good w m s) : Calls Try.prog 6 #[.agg (sA s)] w fun e w' => (e = .returned (.bool true) ∨ e = .returned (.bool false)) ∧ Chg (fun _ => False) w w' := by
  have hl := hG.lens2
  unfold maxLen at hl
  obtain ⟨h1, h2, h3⟩ := hl
  have HC := Lib.hid ((Chg.refl (fun _ => False) w).alloc (.cells (sA s) 35))
  unfold sA at HC
  unfold sA
  clear hG
  go_enter Try.func6, Try.ntmps6
  go_wp2
  all_goals (go_ret; exact ⟨bool_or rfl, HC.out⟩)
set_option maxRecDepth 100000 in
set_option maxHeartbeats 8000000 in
theorem great_any (w : World) (m : MC) (s : SC) (hG : Good w m s) : Calls Try.prog 5 #[.agg (mA m)] w fun e w' => GreatR m e ∧ Chg (fun _ => False) w w' := by
  have hl := hG.lens
  unfold maxLen at hl
  obtain ⟨l0, l1, l2, l3, l4, l5, l6, l7, l8, l9⟩ := hl
  have HC := Lib.hid ((Chg.refl (fun _ => False) w).alloc (.cells (mA m) 32))
  have HG := Lib.hid hG
  have hb := Blk.new w 32 (mA m)
  unfold mA at HC
  unfold mA
  clear hG
  by_cases c0 : 14 < m.gu.length
  · clear hb
    go_enter Try.func5, Try.ntmps5
    go_wp2
    go_ret
    exact ⟨.inl rfl, HC.out⟩
  by_cases c1 : 10 < m.mi.length
  · clear hb
    go_enter Try.func5, Try.ntmps5
    go_wp2
    go_ret
    exact ⟨.inl rfl, HC.out⟩
  by_cases c2 : 10 < m.nS
  · clear hb
    go_enter Try.func5, Try.ntmps5
    go_wp2
    go_ret
    exact ⟨.inl rfl, HC.out⟩
  by_cases c3 : 10 < m.ev.length
  · clear hb
    go_enter Try.func5, Try.ntmps5
    go_wp2
    go_ret
    exact ⟨.inl rfl, HC.out⟩
  by_cases c4 : 10 < m.nA
  · clear hb
    go_enter Try.func5, Try.ntmps5
    go_wp2
    go_ret
    exact ⟨.inl rfl, HC.out⟩
  by_cases c5 : 10 < m.nU
  · clear hb
    go_enter Try.func5, Try.ntmps5
    go_wp2
    go_ret
    exact ⟨.inl rfl, HC.out⟩
  by_cases c6 : 10 < m.ro.length
  · clear hb
    go_enter Try.func5, Try.ntmps5
    go_wp2
    go_ret
    exact ⟨.inl rfl, HC.out⟩
  by_cases c7 : 10 < m.so.length
  · clear hb
    go_enter Try.func5, Try.ntmps5
    go_wp2
    go_ret
    exact ⟨.inl rfl, HC.out⟩
  by_cases c8 : 40 < m.nO
  · clear hb
    go_enter Try.func5, Try.ntmps5
    go_wp2
    go_ret
    exact ⟨.inl rfl, HC.out⟩
  by_cases c9 : 10 < m.nI
  · clear hb
    go_enter Try.func5, Try.ntmps5
    go_wp2
    go_ret
    exact ⟨.inl rfl, HC.out⟩
  go_enter Try.func5, Try.ntmps5
  go_wp2_with fail
  obtain ⟨w1, hw1⟩ : ∃ w1, w1 = w.alloc (.cells (mA m) 32) := ⟨_, rfl⟩
  rw [← hw1] at hb
  unfold mA at hw1
  rw [← hw1] at HC ⊢
  clear hw1
  have HC1 := HC
  have HG1 := Lib.hid (HG.out.later HC.out)
  obtain ⟨-, -, -, -, -, e5, e6, e7, -, -⟩ := mcells hb
  clear hb
  obtain ⟨g, hg⟩ : ∃ g, g = w.heap.size := ⟨_, rfl⟩
  rw [← hg] at e5 e6 e7 ⊢
  clear hg
  have hend := Lib.hid (show m.nU ≤ 10 ∧ m.nS ≤ 10 from ⟨by omega, by omega⟩)
  go_loopw [3] (fun x wr => ∃ j : Nat, j ≤ m.gu.length ∧ x = .int .i64 j ∧ w1 = wr) (fun x _ => m.gu.length - (intOf x).toNat)
  case atStart => exact ⟨0, Nat.zero_le _, rfl, rfl⟩
  case round =>
    obtain ⟨j, hj, rfl, rfl⟩ := hrel
    by_cases hlt : j < m.gu.length
    · obtain ⟨x, hx⟩ : ∃ x, m.gu[j]? = some x := ⟨_, List.getElem?_eq_getElem hlt⟩
      obtain ⟨b1, o1, hA1, hb1, hc⟩ := row_at (f := guC) (C := 3) (fun _ => rfl) (by omega) (HG1.out.gu) hx
      have r1 := hc 2 _ rfl
      have e62 := e6
      rw [hA1] at e62
      have hcell := Lib.hid e6
      clear hc hx hA1 e6
      by_cases hgt : 80 < x.il
      · have hd : decide ((80 : Int) < (x.il : Int)) = true := by rw [decide_eq_true_iff]; omega
        clear hgt
        go_wp2
        go_ret
        exact ⟨.inl rfl, HC1.out⟩
      · have hd : decide ((80 : Int) < (x.il : Int)) = false := by rw [decide_eq_false_iff_not]; omega
        clear hgt
        go_wp2
        go_roundw
        case rel => exact ⟨j + 1, by omega, by go_num, by first | rfl | trivial⟩
        case measure => (simp [intOf] <;> omega)
    · obtain rfl : j = m.gu.length := by omega
      clear hlt hj
      go_wp2_with fail
      go_loopw [4] (fun x wr => ∃ j : Nat, j ≤ m.mi.length ∧ x = .int .i64 j ∧ w1 = wr) (fun x _ => m.mi.length - (intOf x).toNat)
      case atStart => exact ⟨0, Nat.zero_le _, rfl, rfl⟩
      case round =>
        obtain ⟨j, hj, rfl, rfl⟩ := hrel
        by_cases hlt : j < m.mi.length
        · obtain ⟨x, hx⟩ : ∃ x, m.mi[j]? = some x := ⟨_, List.getElem?_eq_getElem hlt⟩
          obtain ⟨b1, o1, hA1, hb1, hc⟩ := row_at (f := miC) (C := 5) (fun _ => rfl) (by omega) (HG1.out.mi) hx
          have r1 := hc 3 _ rfl
          have e72 := e7
          rw [hA1] at e72
          have hcell := Lib.hid e7
          clear hc hx hA1 e7
          by_cases hgt : 80 < x.il
          · have hd : decide ((80 : Int) < (x.il : Int)) = true := by rw [decide_eq_true_iff]; omega
            clear hgt
            go_wp2
            go_ret
            exact ⟨.inl rfl, HC1.out⟩
          · have hd : decide ((80 : Int) < (x.il : Int)) = false := by rw [decide_eq_false_iff_not]; omega
            clear hgt
            go_wp2
            go_roundw
            case rel => exact ⟨j + 1, by omega, by go_num, by first | rfl | trivial⟩
            case measure => (simp [intOf] <;> omega)
        · obtain rfl : j = m.mi.length := by omega
          clear hlt hj
          go_wp2_with fail
          go_loopw [5] (fun x wr => ∃ j : Nat, j ≤ m.ev.length ∧ x = .int .i64 j ∧ w1 = wr) (fun x _ => m.ev.length - (intOf x).toNat)
          case atStart => exact ⟨0, Nat.zero_le _, rfl, rfl⟩
          case round =>
            obtain ⟨j, hj, rfl, rfl⟩ := hrel
            by_cases hlt : j < m.ev.length
            · obtain ⟨x, hx⟩ : ∃ x, m.ev[j]? = some x := ⟨_, List.getElem?_eq_getElem hlt⟩
              obtain ⟨b1, o1, hA1, hb1, hc⟩ := row_at (f := evC) (C := 5) (fun _ => rfl) (by omega) (HG1.out.ev) hx
              have r1 := hc 3 _ rfl
              have e52 := e5
              rw [hA1] at e52
              have hcell := Lib.hid e5
              clear hc hx hA1 e5
              by_cases hgt : 10 < x.sn
              · have hd : decide ((10 : Int) < (x.sn : Int)) = true := by rw [decide_eq_true_iff]; omega
                clear hgt
                go_wp2
                go_ret
                exact ⟨.inl rfl, HC1.out⟩
              · have hd : decide ((10 : Int) < (x.sn : Int)) = false := by rw [decide_eq_false_iff_not]; omega
                clear hgt
                go_wp2
                go_roundw
                case rel => exact ⟨j + 1, by omega, by go_num, by first | rfl | trivial⟩
                case measure => (simp [intOf] <;> omega)
            · obtain rfl : j = m.ev.length := by omega
              clear hlt hj
              go_wp2
              go_ret
              exact ⟨.inr ⟨rfl, hend.out⟩, HC1.out⟩
end Go.Proofs.Ytfnpfkjdcchipaa
