/- The walks of Who, the program's and the reference's. -/
import Derived.Test.YtfnpfkjdcchipaaRefEnab
namespace Go.Proofs.Ytfnpfkjdcchipaa
open Go.RowKit

def intsV (l : List Int) : List Value := l.map (Value.int .i64)
theorem intsV_append (a b : List Int) : intsV (a ++ b) = intsV a ++ intsV b := by simp [intsV]
/-- For whom an event is enabled, of the first n users. -/
def whoL (m : MC) (s : SC) (e : Int) (n : Nat) : List Int := ((List.range n).filter (fun (u : Nat) => enB m s e u)).map (fun (u : Nat) => (u : Int))
theorem whoL_succ (m : MC) (s : SC) (e : Int) (n : Nat) : whoL m s e (n + 1) = whoL m s e n ++ (if enB m s e n = true then [(n : Int)] else []) := by
  unfold whoL
  rw [List.range_succ, List.filter_append, List.map_append]
  cases h : enB m s e n <;> simp [h]
theorem whoL_le (m : MC) (s : SC) (e : Int) (n : Nat) : (whoL m s e n).length ≤ n := by
  unfold whoL
  rw [List.length_map]
  exact Nat.le_trans (List.length_filter_le _ _) (by simp)
theorem int_info : (Try.prog.info? 3).map (fun i => (i.zero, i.size, i.bytes)) = some (some (.int .i64 0), 1, 8) := by kernel_rfl
theorem all_new {w : World} {g : Nat} {t : TypeId} {cs : Array Value} (h : Blk w g t cs) : ∀ j u, cs.toList[j]? = some u → w.cell? ((⟨g, 0, none⟩ : Addr).add j) = some u := fun j u hu => by
  rw [add_row, Nat.zero_add, h.cell]; simpa using hu
/-- A slice of ints that a call has made. -/
def WhoR (w0 : World) (l : List Int) (e : Ending) (w' : World) : Prop :=
  ∃ A c, e = .returned (.slice A l.length c) ∧ l.length ≤ maxLen ∧ Rd w' w'.heap.size A (intsV l) ∧ Chg (fun _ => False) w0 w'
set_option maxRecDepth 100000 in
set_option maxHeartbeats 4000000 in
theorem who_any (w : World) (m : MC) (s : SC) (e : Int) (hG : Good w m s) (hnU : m.nU ≤ 1000) : Calls Try.prog 10 #[.agg (mA m), .agg (sA s), .int .i64 e] w fun r w' => WhoR w (whoL m s e m.nU) r w' := by
  have hb := Boxes.new w m s
  have hC0 := ((Chg.refl (fun _ => False) w).alloc (.cells (mA m) 32)).alloc (.cells (sA s) 35)
  have HE := Lib.hid (fun (w' : World) (h : Chg (fun _ => False) w w') (u : Int) => en_any w' m s e u (hG.later h))
  obtain ⟨i, hi, hzz⟩ := Option.map_eq_some_iff.1 int_info
  simp only [Prod.mk.injEq] at hzz
  obtain ⟨hz0, hz1, hz2⟩ := hzz
  unfold mA sA at HE
  unfold mA sA
  go_enter Try.func10, Try.ntmps10
  go_wp2_with fail
  obtain ⟨w1, hw1⟩ : ∃ w1, w1 = (w.alloc (.cells (mA m) 32)).alloc (.cells (sA s) 35) := ⟨_, rfl⟩
  rw [← hw1] at hb hC0
  unfold mA sA at hw1
  rw [← hw1]
  clear hw1
  obtain ⟨k, hk⟩ : ∃ k, k = w.heap.size + 1 := ⟨_, rfl⟩
  obtain ⟨g, hg⟩ : ∃ g, g = w.heap.size := ⟨_, rfl⟩
  rw [← hk, ← hg] at hb ⊢
  clear hk hg hG
  have HB := Lib.hid hb
  have HC0 := Lib.hid hC0
  clear hb hC0
  go_loopw [12, 7] (fun x v wr => ∃ j : Nat, j ≤ m.nU ∧ x = .int .i64 j ∧ Hid (wr.ownsRow w1.heap.size 3 1 v (whoL m s e j).length (intsV (whoL m s e j))) ∧ Hid (Chg (fun _ => False) w1 wr)) (fun x _ _ => m.nU - (intOf x).toNat)
  case atStart => exact ⟨0, Nat.zero_le _, rfl, Lib.hid (World.ownsRow_nil _ _ _ _), Chg.refl _ _⟩
  case round =>
    obtain ⟨j, hj, rfl, hO, hC⟩ := hrel
    have hBr := HB.out.later hC.out
    obtain ⟨e0, e1, e2, e3, e4, e5, e6, e7, e8, e9⟩ := mcells hBr.m
    obtain ⟨f0, f1, f2, f3, f4⟩ := scells hBr.s
    replace hBr := Lib.hid hBr
    by_cases hlt : j < m.nU
    · have hs := Lib.hid (whoL_succ m s e j)
      have hql := Lib.hid (whoL_le m s e j)
      obtain ⟨q, hq⟩ : ∃ q, q = (whoL m s e j).length := ⟨_, rfl⟩
      rw [← hq] at hO hql
      replace hq := Lib.hid hq
      have hq1000 : q ≤ 1000 := by have := hql.out; omega
      obtain ⟨ev, hev⟩ : ∃ ev, ev = enB m s e j := ⟨_, rfl⟩
      have HEJ := Lib.hid (HE.out wr (Chg.trans HC0.out hC.out (fun _ _ h => h)) j)
      rw [← hev] at HEJ hs
      clear hev
      cases ev with
      | false =>
        replace hs := Lib.hid (show whoL m s e (j + 1) = whoL m s e j by rw [hs.out]; simp)
        go_wp2_with (go_at_call 18; refine HEJ.out.mono ?_; rintro r w' ⟨rfl, h⟩; have HC2 := Lib.hid (Chg.trans hC.out h (fun _ _ h => h)); have HO2 := Lib.hid (own_chg hO.out h (fun _ _ h => h)); clear h)
        go_roundw
        case rel => exact ⟨j + 1, by omega, by go_num, Lib.hid (by rw [hs.out, ← hq.out]; exact HO2.out), HC2⟩
        case measure => (simp [intOf] <;> omega)
      | true =>
        replace hs := Lib.hid (show whoL m s e (j + 1) = whoL m s e j ++ [(j : Int)] by rw [hs.out]; simp)
        go_wp2_with (first | (go_at_call 18; refine HEJ.out.mono ?_; rintro r w' ⟨rfl, h⟩; have hsz := Lib.hid (Nat.le_trans hC.out.size h.size); have HC2 := Lib.hid (Chg.trans hC.out h (fun _ _ h => h)); have HO2 := Lib.hid (own_chg hO.out h (fun _ _ h => h)); clear h) | (at_builtin; refine wpList_append_own _ rfl (.tmp 20) (.tmp 22) 33 rfl w1.heap.size 3 i _ 1 8 Try.underlying33 hi hz0 hz1 hz2 rfl (by omega) u7 q (intsV (whoL m s e j)) rfl (by exact HO2.out.alloc _) ⟨w'.heap.size, 0, none⟩ 1 1 [.int .i64 j] rfl rfl (by exact all_new (Blk.new w' 3 #[.int .i64 j])) (by intro u hu; simp at hu; subst hu; rfl) (by unfold maxLen; omega) (by omega) (by have := hsz.out; simp; omega) ?_; intro v' w3 hown3 hg3 hat3; have HO3 := Lib.hid hown3; have HC3 := Lib.hid (Chg.trans HC2.out (Chg.grown (S := fun k => Value.ownBlock u7 = some k) ((Chg.refl _ w').alloc _) hg3 (fun k hk => .inl hk)) (fun i hi e => by have := (HO2.out.lt i e).1; omega)); clear hown3 hg3 hat3))
        go_roundw
        case rel => exact ⟨j + 1, by omega, by go_num, Lib.hid (by rw [hs.out, List.length_append, intsV_append, ← hq.out]; exact HO3.out), HC3⟩
        case measure => (simp [intOf] <;> omega)
    · obtain rfl : j = m.nU := by omega
      obtain ⟨A, c, rfl, hqc, hcm⟩ := own_slice hO.out
      have hR := Lib.hid (own_rd hO.out)
      have hl := Lib.hid (Nat.le_trans hqc hcm)
      obtain ⟨q, hq⟩ : ∃ q, q = (whoL m s e m.nU).length := ⟨_, rfl⟩
      rw [← hq]
      replace hq := Lib.hid hq
      clear hqc hcm
      go_wp2
      go_ret
      exact ⟨A, c, by rw [← hq.out]; rfl, hl.out, hR.out, Chg.trans HC0.out hC.out (fun _ _ h => h)⟩
set_option maxRecDepth 100000 in
set_option maxHeartbeats 4000000 in
theorem refWho_any (w : World) (m : MC) (s : SC) (e : Int) (hG : Good w m s) (hnU : m.nU ≤ 1000) : Calls Try.prog 8 #[.agg (mA m), .agg (sA s), .int .i64 e] w fun r w' => WhoR w (whoL m s e m.nU) r w' := by
  have hb := Boxes.new w m s
  have hC0 := ((Chg.refl (fun _ => False) w).alloc (.cells (mA m) 32)).alloc (.cells (sA s) 35)
  have HE := Lib.hid (fun (w' : World) (h : Chg (fun _ => False) w w') (u : Int) => refEn_any w' m s e u (hG.later h))
  obtain ⟨i, hi, hzz⟩ := Option.map_eq_some_iff.1 int_info
  simp only [Prod.mk.injEq] at hzz
  obtain ⟨hz0, hz1, hz2⟩ := hzz
  unfold mA sA at HE
  unfold mA sA
  go_enter Try.func8, Try.ntmps8
  go_wp2_with fail
  obtain ⟨w1, hw1⟩ : ∃ w1, w1 = (w.alloc (.cells (mA m) 32)).alloc (.cells (sA s) 35) := ⟨_, rfl⟩
  rw [← hw1] at hb hC0
  unfold mA sA at hw1
  rw [← hw1]
  clear hw1
  obtain ⟨k, hk⟩ : ∃ k, k = w.heap.size + 1 := ⟨_, rfl⟩
  obtain ⟨g, hg⟩ : ∃ g, g = w.heap.size := ⟨_, rfl⟩
  rw [← hk, ← hg] at hb ⊢
  clear hk hg hG
  have HB := Lib.hid hb
  have HC0 := Lib.hid hC0
  clear hb hC0
  go_loopw [8, 7] (fun x v wr => ∃ j : Nat, j ≤ m.nU ∧ x = .int .i64 j ∧ Hid (wr.ownsRow w1.heap.size 3 1 v (whoL m s e j).length (intsV (whoL m s e j))) ∧ Hid (Chg (fun _ => False) w1 wr)) (fun x _ _ => m.nU - (intOf x).toNat)
  case atStart => exact ⟨0, Nat.zero_le _, rfl, Lib.hid (World.ownsRow_nil _ _ _ _), Chg.refl _ _⟩
  case round =>
    obtain ⟨j, hj, rfl, hO, hC⟩ := hrel
    have hBr := HB.out.later hC.out
    obtain ⟨e0, e1, e2, e3, e4, e5, e6, e7, e8, e9⟩ := mcells hBr.m
    obtain ⟨f0, f1, f2, f3, f4⟩ := scells hBr.s
    replace hBr := Lib.hid hBr
    by_cases hlt : j < m.nU
    · have hs := Lib.hid (whoL_succ m s e j)
      have hql := Lib.hid (whoL_le m s e j)
      obtain ⟨q, hq⟩ : ∃ q, q = (whoL m s e j).length := ⟨_, rfl⟩
      rw [← hq] at hO hql
      replace hq := Lib.hid hq
      have hq1000 : q ≤ 1000 := by have := hql.out; omega
      obtain ⟨ev, hev⟩ : ∃ ev, ev = enB m s e j := ⟨_, rfl⟩
      have HEJ := Lib.hid (HE.out wr (Chg.trans HC0.out hC.out (fun _ _ h => h)) j)
      rw [← hev] at HEJ hs
      clear hev
      cases ev with
      | false =>
        replace hs := Lib.hid (show whoL m s e (j + 1) = whoL m s e j by rw [hs.out]; simp)
        go_wp2_with (go_at_call 20; refine HEJ.out.mono ?_; rintro r w' ⟨rfl, h⟩; have HC2 := Lib.hid (Chg.trans hC.out h (fun _ _ h => h)); have HO2 := Lib.hid (own_chg hO.out h (fun _ _ h => h)); clear h)
        go_roundw
        case rel => exact ⟨j + 1, by omega, by go_num, Lib.hid (by rw [hs.out, ← hq.out]; exact HO2.out), HC2⟩
        case measure => (simp [intOf] <;> omega)
      | true =>
        replace hs := Lib.hid (show whoL m s e (j + 1) = whoL m s e j ++ [(j : Int)] by rw [hs.out]; simp)
        go_wp2_with (first | (go_at_call 20; refine HEJ.out.mono ?_; rintro r w' ⟨rfl, h⟩; have hsz := Lib.hid (Nat.le_trans hC.out.size h.size); have HC2 := Lib.hid (Chg.trans hC.out h (fun _ _ h => h)); have HO2 := Lib.hid (own_chg hO.out h (fun _ _ h => h)); clear h) | (at_builtin; refine wpList_append_own _ rfl (.tmp 21) (.tmp 23) 33 rfl w1.heap.size 3 i _ 1 8 Try.underlying33 hi hz0 hz1 hz2 rfl (by omega) u7 q (intsV (whoL m s e j)) rfl (by exact HO2.out.alloc _) ⟨w'.heap.size, 0, none⟩ 1 1 [.int .i64 j] rfl rfl (by exact all_new (Blk.new w' 3 #[.int .i64 j])) (by intro u hu; simp at hu; subst hu; rfl) (by unfold maxLen; omega) (by omega) (by have := hsz.out; simp; omega) ?_; intro v' w3 hown3 hg3 hat3; have HO3 := Lib.hid hown3; have HC3 := Lib.hid (Chg.trans HC2.out (Chg.grown (S := fun k => Value.ownBlock u7 = some k) ((Chg.refl _ w').alloc _) hg3 (fun k hk => .inl hk)) (fun i hi e => by have := (HO2.out.lt i e).1; omega)); clear hown3 hg3 hat3))
        go_roundw
        case rel => exact ⟨j + 1, by omega, by go_num, Lib.hid (by rw [hs.out, List.length_append, intsV_append, ← hq.out]; exact HO3.out), HC3⟩
        case measure => (simp [intOf] <;> omega)
    · obtain rfl : j = m.nU := by omega
      obtain ⟨A, c, rfl, hqc, hcm⟩ := own_slice hO.out
      have hR := Lib.hid (own_rd hO.out)
      have hl := Lib.hid (Nat.le_trans hqc hcm)
      obtain ⟨q, hq⟩ : ∃ q, q = (whoL m s e m.nU).length := ⟨_, rfl⟩
      rw [← hq]
      replace hq := Lib.hid hq
      clear hqc hcm
      go_wp2
      go_ret
      exact ⟨A, c, by rw [← hq.out]; rfl, hl.out, hR.out, Chg.trans HC0.out hC.out (fun _ _ h => h)⟩
end Go.Proofs.Ytfnpfkjdcchipaa
