/- The walk of built: a list of items as a tree. -/
import Derived.Test.YtpppgnphblbbcaaTrPush
import Derived.Test.YtpppgnphblbbcaaTrRef
namespace Go.Proofs.Ytpppgnphblbbcaa
open Go.RowKit

theorem chk_form {f : Nat → Int} {n : Nat} (h0 : n ≠ 0) (h1 : ¬ 64 < n) {t : Tr.T} (h : Tr.run f n = some [t]) : Tr.check f n = 0 := by
  rw [Tr.check_zero]; exact ⟨by omega, by omega, (Tr.form_iff n).2 ⟨t, h⟩⟩
theorem chk_not {f : Nat → Int} {n : Nat} (h0 : n ≠ 0) (h1 : ¬ 64 < n) (h : ∀ t, Tr.run f n ≠ some [t]) : Tr.check f n = 17 := by
  unfold Tr.check
  rw [if_neg h0, if_neg h1, if_neg]
  intro hb
  obtain ⟨t, ht⟩ := (Tr.form_iff n).1 hb
  exact h t ht
theorem run_none {f : Nat → Int} {j : Nat} (h : Tr.run f j = none) : ∀ n, j ≤ n → Tr.run f n = none
  | 0, hn => by obtain rfl : j = 0 := by omega
                exact h
  | n + 1, hn => by
    rcases Nat.lt_or_ge n j with hlt | hge
    · obtain rfl : j = n + 1 := by omega
      exact h
    · rw [Tr.run_succ, run_none h n hge]
theorem push_le {row r : List Tr.T} {op : Int} {a : Nat} (h : Tr.push row op a = some r) : r.length ≤ row.length + 1 := by
  unfold Tr.push at h
  split at h
  · injection h with h; subst h; simp
  · split at h
    · split at h
      · injection h with h; subst h; simp
      · cases h
    · split at h
      · split at h
        · injection h with h; subst h; simp
        · cases h
      · cases h
theorem run_le {f : Nat → Int} : ∀ {n : Nat} {row : List Tr.T}, Tr.run f n = some row → row.length ≤ n
  | 0, row, h => by injection h with h; subst h; simp
  | n + 1, row, h => by
    rw [Tr.run_succ] at h
    split at h
    · cases h
    · rename_i row' hr
      have := run_le hr
      have := push_le h
      omega
/-- What built answers. -/
def BuiltR (f : List Nm.Item) (e : Ending) : Prop :=
  (∃ t, Tr.run (sg f) f.length = some [t] ∧ Tr.check (sg f) f.length = 0 ∧ e = .returned (.tuple #[valT t, .int .i64 0])) ∨
  (Tr.check (sg f) f.length ≠ 0 ∧ e = .returned (.tuple #[.nilIface, .int .i64 (Tr.check (sg f) f.length)]))
set_option maxRecDepth 100000 in
set_option maxHeartbeats 2000000 in
theorem built_any (w : World) (A : Option Addr) (c : Nat) (f : List Nm.Item) (hl : f.length ≤ maxLen) (hr : Rd w w.heap.size A (cellsI f)) :
    Calls Try.prog 59 #[.slice A f.length c] w fun e w' => BuiltR f e ∧ Chg (fun _ => False) w w' := by
  have HR := Lib.hid hr
  clear hr
  unfold maxLen at hl
  by_cases h0 : f.length = 0
  · have hc : Hid (Tr.check (sg f) f.length = 12) := by show _ = _; unfold Tr.check; rw [if_pos h0]
    go_enter Try.func59, Try.ntmps59
    go_wp2
    go_ret2
    exact ⟨.inr ⟨by rw [hc.out]; decide, by rw [hc.out]; rfl⟩, Chg.refl _ _⟩
  have hz : ((f.length : Int) == 0) = false := by rw [beq_eq_false_iff_ne]; omega
  by_cases h1 : 64 < f.length
  · have hc : Hid (Tr.check (sg f) f.length = 3) := by show _ = _; unfold Tr.check; rw [if_neg h0, if_pos h1]
    have hd : decide ((64 : Int) < (f.length : Int)) = true := by rw [decide_eq_true_iff]; omega
    go_enter Try.func59, Try.ntmps59
    go_wp2
    go_ret2
    exact ⟨.inr ⟨by rw [hc.out]; decide, by rw [hc.out]; rfl⟩, Chg.refl _ _⟩
  have hd : decide ((64 : Int) < (f.length : Int)) = false := by rw [decide_eq_false_iff_not]; omega
  replace h0 := Lib.hid h0
  go_enter Try.func59, Try.ntmps59
  go_wp2
  go_loopw [19, 4] (fun i v wr => ∃ (j : Nat) (row : List Tr.T), j ≤ f.length ∧ i = .int .i64 j ∧ Hid (Tr.run (sg f) j = some row) ∧ Hid (wr.ownsRow w.heap.size 116 1 v row.length (rowV row)) ∧ Hid (Chg (fun _ => False) w wr)) (fun i _ _ => f.length - (intOf i).toNat)
  case atStart =>
    exact ⟨0, [], Nat.zero_le _, rfl, rfl, World.ownsRow_nil _ _ _ _, Chg.refl _ _⟩
  case round =>
    obtain ⟨j, row, hj, rfl, hrun, hO, hC⟩ := hrel
    by_cases hlt : j < f.length
    · obtain ⟨x, hx⟩ : ∃ x, f[j]? = some x := ⟨_, List.getElem?_eq_getElem hlt⟩
      obtain ⟨b1, o1, hA1, hb1, c0, c1, c2, c3, c4, c5, c6, c7, c8⟩ := item_at (HR.out.chg hC.out (Nat.le_refl _) (fun _ h => h.elim)) hx
      have hop := Lib.hid (sg_at hx)
      subst hA1
      replace hx := Lib.hid hx
      have hrl := run_le hrun.out
      have hrs := Lib.hid (Tr.run_succ (f := sg f) j)
      rw [hrun.out, hop.out] at hrs
      have hsz := hC.out.size
      rcases hp : Tr.push row x.op j with _ | r
      · have hck : Hid (Tr.check (sg f) f.length = 17) := by
          refine chk_not h0.out h1 (fun t ht => ?_)
          have h2 := hrs.out
          simp only [hp] at h2
          rw [run_none h2 f.length (by omega)] at ht
          cases ht
        replace hp := Lib.hid hp
        go_wp2_with (go_at_call 79; refine (push_any _ w.heap.size _ row x.op j (by exact hO.out.alloc _) (by simp; omega) (by omega)).mono ?_; rw [hp.out]; rintro e w' ⟨rfl, hh⟩; have H2 := Lib.hid hh; clear hh)
        go_ret2
        exact ⟨.inr ⟨by rw [hck.out]; decide, by rw [hck.out]; rfl⟩, Chg.trans (hC.out.alloc _) H2.out (fun _ _ h => h)⟩
      · have hrr : Hid (Tr.run (sg f) (j + 1) = some r) := by
          have h2 := hrs.out
          simp only [hp] at h2
          exact h2
        replace hp := Lib.hid hp
        go_wp2_with (go_at_call 79; refine (push_any _ w.heap.size _ row x.op j (by exact hO.out.alloc _) (by simp; omega) (by omega)).mono ?_; rw [hp.out]; rintro e w' ⟨v', rfl, hown, hh⟩; have HO2 := Lib.hid hown; have H2 := Lib.hid hh; clear hh hown)
        go_roundw
        case rel => exact ⟨j + 1, r, by omega, by go_num, hrr, HO2, Lib.hid (Chg.trans (hC.out.alloc _) H2.out (fun i hi h => by have := (hO.out.lt i h).1; omega))⟩
        case measure => (simp [intOf] <;> omega)
    · obtain rfl : j = f.length := by omega
      clear hj hlt
      have hrl := run_le hrun.out
      by_cases hl1 : row.length = 1
      · obtain ⟨t, rfl⟩ : ∃ t, row = [t] := by
          match row, hl1 with
          | [t], _ => exact ⟨t, rfl⟩
        obtain ⟨g0, c0, hv, hglt, _, _, hcell⟩ := own_form hO.out (by simp)
        have hx : wr.cell? ⟨g0, 0, none⟩ = some (.iface (typT t) (.agg (cellT t))) := by
          rw [← valT_eq, hcell 0 (by simp)]; rfl
        subst hv
        clear hcell hl1
        go_wp2
        go_ret2
        exact ⟨.inl ⟨t, hrun.out, chk_form h0.out h1 hrun.out, by rw [valT_eq]; rfl⟩, hC.out⟩
      · obtain ⟨A2, c2, rfl, _, _⟩ := own_slice hO.out
        have hlz : ((row.length : Int) == 1) = false := by rw [beq_eq_false_iff_ne]; omega
        have hlz2 : ((row.length : Int) != 1) = true := by rw [bne, hlz]; rfl
        have hck : Hid (Tr.check (sg f) f.length = 17) := by
          refine chk_not h0.out h1 (fun t ht => ?_)
          rw [hrun.out] at ht
          injection ht with ht
          subst ht
          exact hl1 rfl
        go_wp2
        go_ret2
        exact ⟨.inr ⟨by rw [hck.out]; decide, by rw [hck.out]; rfl⟩, hC.out⟩
end Go.Proofs.Ytpppgnphblbbcaa
