/- The walk of the reference's Same, at two lists that are the same. -/
import Derived.Test.YtpppgnphblbbcaaBnForm
namespace Go.Proofs.Ytpppgnphblbbcaa
open Go.RowKit

def instsC (l : List Nm.Stm) (f : List Nm.Item) : List Value := f.flatMap (instC l)
theorem inst_at {w : World} {B : Nat} {A : Option Addr} {l : List Nm.Stm} {f : List Nm.Item} (h : Rd w B A (instsC l f)) {i : Nat} {x : Nm.Item} (hi : f[i]? = some x) : ∃ b o, A = some ⟨b, o, none⟩ ∧ b < B ∧
    w.cell? ⟨b, o + i * 7, none⟩ = some (.int .i64 (Nm.instV l x).op) ∧ w.cell? ⟨b, o + i * 7 + 1, none⟩ = some (.int .i64 (Nm.instV l x).la) ∧ w.cell? ⟨b, o + i * 7 + 2, none⟩ = some (.int .i64 (Nm.instV l x).lnum) ∧ w.cell? ⟨b, o + i * 7 + 3, none⟩ = some (.int .i64 (Nm.instV l x).ra) ∧
    w.cell? ⟨b, o + i * 7 + 4, none⟩ = some (.int .i64 (Nm.instV l x).rnum) ∧ w.cell? ⟨b, o + i * 7 + 5, none⟩ = some (.int .i64 (Nm.instV l x).n) ∧ w.cell? ⟨b, o + i * 7 + 6, none⟩ = some (.int .i64 (Nm.instV l x).user) := by
  obtain ⟨hil, rfl⟩ := List.getElem?_eq_some_iff.1 hi
  have hlen : (instsC l f).length = f.length * 7 := flat_len (instC l) (instC_len l) f
  obtain ⟨b, o, hA, hb, hc⟩ := h.plain (by rw [hlen]; omega)
  have key : ∀ r u, r < 7 → (instC l f[i])[r]? = some u → w.cell? ⟨b, o + i * 7 + r, none⟩ = some u := fun r u hr hu => by
    have := hc (i * 7 + r) u (by rw [← hu]; exact flat_get (instC l) (instC_len l) f i r hil hr)
    rwa [← Nat.add_assoc] at this
  exact ⟨b, o, hA, hb, key 0 _ (by omega) rfl, key 1 _ (by omega) rfl, key 2 _ (by omega) rfl, key 3 _ (by omega) rfl, key 4 _ (by omega) rfl, key 5 _ (by omega) rfl, key 6 _ (by omega) rfl⟩
theorem own_rdN {w : World} {base n c size : Nat} {e : TypeId} {A : Option Addr} {xs : List Value} (h : w.ownsRow base e size (.slice A n c) n xs) : Rd w w.heap.size A xs := fun hn => by
  rcases h.2 with ⟨h1, h2⟩ | ⟨g, cap, cur, h1, _, hh, hnc, hcm, hcs, htk⟩
  · have := h.1; rw [h2, Nat.zero_mul] at this; omega
  · injection h1 with hA _ _
    refine ⟨_, hA, (Array.getElem?_eq_some_iff.1 hh).1, fun j u hu => ?_⟩
    rw [add_row, Nat.zero_add]
    have hB : Blk w g e cur := hh
    rw [hB.cell]
    rw [← htk, List.getElem?_take] at hu
    split at hu
    · simpa using hu
    · cases hu

set_option maxRecDepth 100000 in
set_option maxHeartbeats 2000000 in
theorem same_eq (w : World) (A B : Option Addr) (c d : Nat) (l : List Nm.Stm) (f : List Nm.Item) (hl : f.length ≤ 1000) (hA : Rd w w.heap.size A (instsC l f)) (hB : Rd w w.heap.size B (instsC l f)) :
    Calls Try.prog 29 #[.slice A f.length c, .slice B f.length d] w fun e w' => e = .returned (.bool true) ∧ Chg (fun _ => False) w w' := by
  have HA := Lib.hid hA
  have HB := Lib.hid hB
  clear hA hB
  go_enter Try.func29, Try.ntmps29
  go_wp2
  go_loopw [5] (fun i wr => ∃ j : Nat, j ≤ f.length ∧ i = .int .i64 j ∧ Hid (Chg (fun _ => False) w wr)) (fun i _ => f.length - (intOf i).toNat)
  case atStart => exact ⟨0, Nat.zero_le _, rfl, Chg.refl _ _⟩
  case round =>
    obtain ⟨j, hj, rfl, hC⟩ := hrel
    by_cases hlt : j < f.length
    · obtain ⟨x, hx⟩ : ∃ x, f[j]? = some x := ⟨_, List.getElem?_eq_getElem hlt⟩
      obtain ⟨b1, o1, hA1, hb1, c0, c1, c2, c3, c4, c5, c6⟩ := inst_at (HA.out.chg hC.out (Nat.le_refl _) (fun _ h => h.elim)) hx
      obtain ⟨b2, o2, hA2, hb2, e0, e1, e2, e3, e4, e5, e6⟩ := inst_at (HB.out.chg hC.out (Nat.le_refl _) (fun _ h => h.elim)) hx
      subst hA1
      subst hA2
      obtain ⟨v, hv⟩ : ∃ v, v = Nm.instV l x := ⟨_, rfl⟩
      rw [← hv] at c0 c1 c2 c3 c4 c5 c6 e0 e1 e2 e3 e4 e5 e6
      clear hv hx
      go_wp2_with fail
      go_quiet (fail)
      have HE := Lib.hid (hC.out.drewN nq)
      go_wp2
      go_roundw
      case rel => exact ⟨j + 1, by omega, by go_num, HE⟩
      case measure => simp [intOf]; omega
    · go_wp2
      go_ret
      exact ⟨rfl, hC.out⟩
end Go.Proofs.Ytpppgnphblbbcaa
