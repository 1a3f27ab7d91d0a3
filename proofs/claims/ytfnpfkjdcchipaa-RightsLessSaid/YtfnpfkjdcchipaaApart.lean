/- The walks of apart and of Enabled. -/
import Derived.Test.YtfnpfkjdcchipaaFree
namespace Go.Proofs.Ytfnpfkjdcchipaa
open Go.RowKit

def apX (s : SC) (e u : Int) (x : Int × Int) : Bool := (x.1 == e && hasB (atV s.did x.2) u) || (x.2 == e && hasB (atV s.did x.1) u)
def apB (m : MC) (s : SC) (e u : Int) : Bool := m.so.any (apX s e u)
def enB (m : MC) (s : SC) (e u : Int) : Bool := freeB m s e u && !apB m s e u
theorem any_snoc {α : Type} (f : α → Bool) (l : List α) (x : α) : (l ++ [x]).any f = (l.any f || f x) := by simp
theorem take_get {α : Type} {l : List α} {j : Nat} {x : α} (h : l[j]? = some x) : l.take (j + 1) = l.take j ++ [x] := by
  obtain ⟨h1, h2⟩ := List.getElem?_eq_some_iff.1 h
  rw [List.take_succ_eq_append_getElem h1, h2]
theorem any_get {α : Type} {f : α → Bool} {l : List α} {j : Nat} {x : α} (h : l[j]? = some x) (hx : f x = true) : l.any f = true := by
  rw [List.any_eq_true]; exact ⟨x, List.mem_of_getElem? h, hx⟩
set_option maxRecDepth 100000 in
set_option maxHeartbeats 4000000 in
theorem apart_any (w : World) (m : MC) (s : SC) (e u : Int) (hG : Good w m s) : Calls Try.prog 26 #[.agg (mA m), .agg (sA s), .int .i64 e, .int .i64 u] w fun r w' => r = .returned (.bool (apB m s e u)) ∧ Chg (fun _ => False) w w' := by
  have hlen := hG.lens.2.2.2.2.2.2.2.2.1
  unfold maxLen at hlen
  have hb := Boxes.new w m s
  have hC0 := ((Chg.refl (fun _ => False) w).alloc (.cells (mA m) 32)).alloc (.cells (sA s) 35)
  have HG := Lib.hid hG
  unfold mA sA
  go_enter Try.func26, Try.ntmps26
  go_wp2_with fail
  obtain ⟨w1, hw1⟩ : ∃ w1, w1 = (w.alloc (.cells (mA m) 32)).alloc (.cells (sA s) 35) := ⟨_, rfl⟩
  rw [← hw1] at hb hC0
  unfold mA sA at hw1
  rw [← hw1]
  clear hw1
  have HB := Lib.hid hb
  have HC0 := Lib.hid hC0
  clear hb hC0 hG
  obtain ⟨k, hk⟩ : ∃ k, k = w.heap.size + 1 := ⟨_, rfl⟩
  obtain ⟨g, hg⟩ : ∃ g, g = w.heap.size := ⟨_, rfl⟩
  rw [← hk, ← hg] at HB
  rw [← hk, ← hg]
  clear hk hg
  go_loopw [14] (fun i wr => ∃ j : Nat, j ≤ m.so.length ∧ i = .int .i64 j ∧ Hid ((m.so.take j).any (apX s e u) = false) ∧ Hid (Chg (fun _ => False) w1 wr)) (fun i _ => m.so.length - (intOf i).toNat)
  case atStart => exact ⟨0, Nat.zero_le _, rfl, Lib.hid rfl, Chg.refl _ _⟩
  case round =>
    obtain ⟨j, hj, rfl, hU, hC⟩ := hrel
    by_cases hlt : j < m.so.length
    · obtain ⟨x, hx⟩ : ∃ x, m.so[j]? = some x := ⟨_, List.getElem?_eq_getElem hlt⟩
      obtain ⟨b1, o1, hA1, hb1, hc⟩ := row_at (f := soC) (C := 2) (fun _ => rfl) (by omega) (HG.out.so.later (Chg.trans HC0.out hC.out (fun _ _ h => h)) (fun _ h => h.elim)) hx
      have c0 := hc 0 _ rfl
      have c1 := hc 1 _ rfl
      rw [Nat.add_zero] at c0
      rw [hA1]
      clear hc
      have hBr := HB.out.later hC.out
      have d3 : ∀ o : Obj, (wr.alloc o).cell? ⟨k, 3, none⟩ = some (.slice s.aD s.did.length s.cD) := fun o => by rw [(hBr.s.alloc o).cell]; rfl
      clear hBr
      have hs : (m.so.take (j + 1)).any (apX s e u) = apX s e u x := by rw [take_get hx, any_snoc, hU.out, Bool.false_or]
      have hyes := fun h => any_get (f := apX s e u) hx h
      clear hx hA1
      have hT := Lib.hid (fun (o : Obj) (i : Int) => at_any (wr.alloc o) s.aD s.cD s.did i (HG.out.later (Chg.trans HC0.out (hC.out.alloc o) (fun _ _ h => h))).did)
      unfold apX at hs hyes
      obtain ⟨xa, xb⟩ := x
      dsimp only at c0 c1 hs hyes
      obtain ⟨p, hp⟩ : ∃ p, p = hasB (atV s.did xb) u := ⟨_, rfl⟩
      obtain ⟨p2, hp2⟩ : ∃ p2, p2 = hasB (atV s.did xa) u := ⟨_, rfl⟩
      rw [← hp, ← hp2] at hs hyes
      replace hp := Lib.hid hp
      replace hp2 := Lib.hid hp2
      have fin : ∀ v : Bool, (xa == e && p || xb == e && p2) = v → Hid (((m.so.take (j + 1)).any (fun x => (x.1 == e && hasB (atV s.did x.2) u) || (x.2 == e && hasB (atV s.did x.1) u)) = v) ∧ (v = true → apB m s e u = true)) := fun v hv => by
        refine Lib.hid ⟨hs.trans hv, fun h => ?_⟩
        unfold apB apX
        exact hyes (hv.trans h)
      clear hs hyes
      obtain ⟨va, hva⟩ : ∃ va, va = (xa == e) := ⟨_, rfl⟩
      obtain ⟨vb, hvb⟩ : ∃ vb, vb = (xb == e) := ⟨_, rfl⟩
      rw [← hva, ← hvb] at fin
      replace hva := hva.symm
      replace hvb := hvb.symm
      cases va <;> cases vb <;> cases p <;> cases p2
      all_goals
        have hF := fin _ rfl
        clear fin
        simp only [Bool.false_and, Bool.true_and, Bool.or_false, Bool.or_true, Bool.or_self] at hF
        go_wp2_with (first | (go_at_call 28; refine (hT.out _ _).mono ?_; rintro e w' ⟨rfl, rfl⟩) | (go_at_call 22; refine (has_any _ _ _).mono ?_; rintro e w' ⟨rfl, rfl⟩; first | rw [← hp.out] | rw [← hp2.out]))
        first
          | (go_roundw
             case rel => exact ⟨j + 1, by omega, by go_num, Lib.hid hF.out.1, Lib.hid (hC.out.alloc _)⟩
             case measure => (simp [intOf] <;> omega))
          | (go_ret; exact ⟨by rw [hF.out.2 (by trivial)]; rfl, Chg.trans HC0.out (hC.out.alloc _) (fun _ _ h => h)⟩)
    · obtain rfl : j = m.so.length := by omega
      rw [List.take_length] at hU
      have hno : Hid (apB m s e u = false) := hU
      clear hU
      go_wp2
      go_ret
      exact ⟨by rw [hno.out]; rfl, Chg.trans HC0.out hC.out (fun _ _ h => h)⟩
end Go.Proofs.Ytfnpfkjdcchipaa
