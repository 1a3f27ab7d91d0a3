/- The walks of Count, Name, Need, and of the reference's Need. -/
import Derived.Test.YtpppgnphblbbcaaNmTab
namespace Go.Proofs.Ytpppgnphblbbcaa
open Go.RowKit

theorem known_cases {k : Int} (h : Nm.known k = true) : ∃ j : Nat, k = (j : Int) ∧ 1 ≤ j ∧ j ≤ 8 := by
  unfold Nm.known at h
  simp only [Bool.and_eq_true, decide_eq_true_eq] at h
  exact ⟨k.toNat, by omega, by omega, by omega⟩

set_option maxHeartbeats 400000 in
theorem count_nil (w : World) (k : Int) : Calls Try.prog 19 #[.pointer none, .int .i64 k] w fun e w' => e = .returned (.int .i64 0) ∧ w = w' := by
  go_enter Try.func19, Try.ntmps19
  go_wp2
  go_ret
  exact ⟨rfl, rfl⟩
/-- How many statements of a kind there are; 0 of none that is known. -/
def cntOf (l : List Nm.Stm) (k : Int) : Int := if Nm.known k = true then (Nm.ahead l k : Int) else 0
set_option maxHeartbeats 400000 in
theorem count_any (w : World) (b mb : Nat) (nv : Nat → Value) (l : List Nm.Stm) (k : Int) (h : TAt w b mb nv l) : Calls Try.prog 19 #[.pointer (some ⟨b, 0, none⟩), .int .i64 k] w fun e w' => e = .returned (.int .i64 (cntOf l k)) ∧ w = w' := by
  cases hk : Nm.known k with
  | false =>
    have hc : Hid (cntOf l k = 0) := by show cntOf l k = 0; unfold cntOf; rw [hk]; rfl
    clear h
    go_enter Try.func19, Try.ntmps19
    go_wp2_with (go_at_call 54; refine (known_any _ _).mono ?_; rintro e w' ⟨rfl, rfl⟩)
    go_ret
    exact ⟨ret_int hc.out.symm, rfl⟩
  | true =>
    have hc : Hid (cntOf l k = (Nm.ahead l k : Int)) := by show cntOf l k = _; unfold cntOf; rw [hk]; rfl
    obtain ⟨j, rfl, h1, h8⟩ := known_cases hk
    have c0 := h.cntCell (k := j) (by omega)
    clear h
    go_enter Try.func19, Try.ntmps19
    go_wp2_with (go_at_call 54; refine (known_any _ _).mono ?_; rintro e w' ⟨rfl, rfl⟩)
    go_ret
    exact ⟨ret_int hc.out.symm, rfl⟩

set_option maxHeartbeats 400000 in
theorem name_nil (w : World) (k n : Int) : Calls Try.prog 20 #[.pointer none, .int .i64 k, .int .i64 n] w fun e w' => e = .returned (.string ⟨#[]⟩) ∧ w = w' := by
  go_enter Try.func20, Try.ntmps20
  go_wp2
  go_ret
  exact ⟨rfl, rfl⟩
set_option maxHeartbeats 400000 in
theorem name_unknown (w : World) (b : Nat) (k n : Int) (hk : Nm.known k = false) : Calls Try.prog 20 #[.pointer (some ⟨b, 0, none⟩), .int .i64 k, .int .i64 n] w fun e w' => e = .returned (.string ⟨#[]⟩) ∧ w = w' := by
  go_enter Try.func20, Try.ntmps20
  go_wp2_with (go_at_call 54; refine (known_any _ _).mono ?_; rintro e w' ⟨rfl, rfl⟩)
  go_ret
  exact ⟨rfl, rfl⟩
set_option maxHeartbeats 400000 in
theorem name_out (w : World) (b mb : Nat) (nv : Nat → Value) (l : List Nm.Stm) (k n : Int) (h : TAt w b mb nv l) (hk : Nm.known k = true) (hn : n < 0 ∨ ((Nm.namesOf l k).length : Int) ≤ n) :
    Calls Try.prog 20 #[.pointer (some ⟨b, 0, none⟩), .int .i64 k, .int .i64 n] w fun e w' => e = .returned (.string ⟨#[]⟩) ∧ w = w' := by
  obtain ⟨j, rfl, h1, h8⟩ := known_cases hk
  have c0 := h.nameCell (k := j) (by omega)
  obtain ⟨A, c, hnv, _, _⟩ := own_slice (h.own j (by omega))
  rw [hnv] at c0
  obtain ⟨len, hlen⟩ : ∃ len, len = (Nm.namesOf l j).length := ⟨_, rfl⟩
  rw [← hlen] at c0 hn
  clear h hnv hlen
  rcases hn with hn | hn
  · have hd : decide (n < 0) = true := by simpa using hn
    go_enter Try.func20, Try.ntmps20
    go_wp2_with (go_at_call 54; refine (known_any _ _).mono ?_; rintro e w' ⟨rfl, rfl⟩)
    go_ret
    exact ⟨rfl, rfl⟩
  · have hd : decide (n < 0) = false := by simp; omega
    have hd2 : decide ((len : Int) ≤ n) = true := by simpa using hn
    go_enter Try.func20, Try.ntmps20
    go_wp2_with (go_at_call 54; refine (known_any _ _).mono ?_; rintro e w' ⟨rfl, rfl⟩)
    go_ret
    exact ⟨rfl, rfl⟩
set_option maxHeartbeats 400000 in
theorem name_in (w : World) (b mb : Nat) (nv : Nat → Value) (l : List Nm.Stm) (k : Int) (i : Nat) (s : ByteArray) (h : TAt w b mb nv l) (hk : Nm.known k = true) (hn : (Nm.namesOf l k)[i]? = some s) :
    Calls Try.prog 20 #[.pointer (some ⟨b, 0, none⟩), .int .i64 k, .int .i64 i] w fun e w' => e = .returned (.string s) ∧ w = w' := by
  obtain ⟨j, rfl, h1, h8⟩ := known_cases hk
  have c0 := h.nameCell (k := j) (by omega)
  obtain ⟨hil, hti⟩ := List.getElem?_eq_some_iff.1 hn
  obtain ⟨g, c, hnv, _, _, _, hcell⟩ := own_form (h.own j (by omega)) (by omega)
  rw [hnv] at c0
  have ci : w.cell? ⟨g, i, none⟩ = some (.string s) := by rw [hcell i hil, List.getElem?_map, hn]; rfl
  obtain ⟨len, hlen⟩ : ∃ len, len = (Nm.namesOf l j).length := ⟨_, rfl⟩
  rw [← hlen] at c0 hil
  clear h hnv hlen hcell hti hn
  have hd : decide ((i : Int) < 0) = false := by simp
  have hd2 : decide ((len : Int) ≤ (i : Int)) = false := by simp; omega
  go_enter Try.func20, Try.ntmps20
  go_wp2_with (go_at_call 54; refine (known_any _ _).mono ?_; rintro e w' ⟨rfl, rfl⟩)
  go_ret
  exact ⟨rfl, rfl⟩

/-- What Need answers. -/
def needV (r : Int × Int) : Value := .tuple #[.int .i64 r.1, .int .i64 r.2]
set_option maxHeartbeats 400000 in
theorem need_nil (w : World) (name : ByteArray) (k : Int) : Calls Try.prog 22 #[.pointer none, .string name, .int .i64 k] w fun e w' => e = .returned (needV (0, 7)) ∧ Chg (fun _ => False) w w' := by
  go_enter Try.func22, Try.ntmps22
  go_wp2_with (go_at_call 18; refine (find_nil _ _).mono ?_; rintro e w' ⟨rfl, hC⟩)
  go_ret2
  exact ⟨rfl, hC⟩
set_option maxHeartbeats 400000 in
theorem need_any (w : World) (b mb : Nat) (nv : Nat → Value) (l : List Nm.Stm) (name : ByteArray) (k : Int) (hz : name.size ≤ maxLen) (h : TAt w b mb nv l) :
    Calls Try.prog 22 #[.pointer (some ⟨b, 0, none⟩), .string name, .int .i64 k] w fun e w' => e = .returned (needV (Nm.need l name k)) ∧ Chg (fun _ => False) w w' := by
  have H := Lib.hid h
  clear h
  by_cases hi : Nm.findI l name < 0
  · have hN : Hid (Nm.need l name k = (0, 7)) := Nm.need_none hi
    have hi := Lib.hid hi
    go_enter Try.func22, Try.ntmps22
    go_wp2_with (go_at_call 18; refine (find_no _ b mb nv l name hz H.out hi.out).mono ?_; rintro e w' ⟨rfl, hC⟩)
    go_ret2
    exact ⟨by rw [hN.out]; rfl, hC⟩
  · obtain ⟨i, hii⟩ : ∃ i : Nat, Nm.findI l name = (i : Int) := ⟨(Nm.findI l name).toNat, by omega⟩
    obtain ⟨x, hx, _, _⟩ := Nm.findI_get hii
    have hN := Lib.hid (Nm.need_some (kind := k) hii hx)
    have HI := Lib.hid hii
    have HX := Lib.hid hx
    clear hi hii hx
    by_cases hk : x.kind = k
    · have hkd : (x.kind != k) = false := by simpa using hk
      have hk := Lib.hid hk
      go_enter Try.func22, Try.ntmps22
      go_wp2_with (go_at_call 18; refine (find_yes _ b mb nv l name hz H.out HI.out HX.out).mono ?_; rintro e w' ⟨rfl, hC⟩)
      go_ret2
      exact ⟨by rw [hN.out, if_pos hk.out, ← hk.out]; rfl, hC⟩
    · have hkd : (x.kind != k) = true := by simpa using hk
      have hk := Lib.hid hk
      go_enter Try.func22, Try.ntmps22
      go_wp2_with (go_at_call 18; refine (find_yes _ b mb nv l name hz H.out HI.out HX.out).mono ?_; rintro e w' ⟨rfl, hC⟩)
      go_ret2
      exact ⟨by rw [hN.out, if_neg hk.out]; rfl, hC⟩

set_option maxHeartbeats 400000 in
theorem refNeed_any (w : World) (A : Option Addr) (n c : Nat) (l : List StmC) (name : ByteArray) (k : Int) (hn : n = l.length) (hl : l.length ≤ 1000000) (h : Rd w w.heap.size A (cellsOf l)) :
    Calls Try.prog 25 #[.slice A n c, .string name, .int .i64 k] w fun e w' => e = .returned (needV (Nm.need (stms l) name k)) ∧ Chg (fun _ => False) w w' := by
  subst hn
  have H := Lib.hid h
  clear h
  have hsl : (stms l).take l.length = stms l := List.take_of_length_le (by simp [stms])
  go_enter Try.func25, Try.ntmps25
  go_wp2_with fail
  refine (refFind_any w A l.length c l l.length name (Nat.le_refl _) rfl hl H.out).mono ?_
  rintro e w2 ⟨rfl, hC⟩
  rw [hsl]
  have HL := Lib.hid (H.out.chg hC (Nat.le_refl _) (fun _ h => h.elim))
  have HC := Lib.hid hC
  clear hsl hC
  by_cases hi : Nm.findI (stms l) name < 0
  · have hN : Hid (Nm.need (stms l) name k = (0, 7)) := Nm.need_none hi
    go_wp2
    go_ret2
    exact ⟨by rw [hN.out]; rfl, HC.out⟩
  · obtain ⟨i, hii⟩ : ∃ i : Nat, Nm.findI (stms l) name = (i : Int) := ⟨(Nm.findI (stms l) name).toNat, by omega⟩
    obtain ⟨x, hx, _, _⟩ := Nm.findI_get hii
    have hN := Lib.hid (Nm.need_some (kind := k) hii hx)
    have hil : i < l.length := by have := (List.getElem?_eq_some_iff.1 hx).1; simpa [stms] using this
    obtain ⟨b, o, hA, _, hc⟩ := stm_at HL.out hil
    subst hA
    have hxe : l[i].s = x := by simp [stms, hil] at hx; exact hx
    have c0 : w2.cell? ⟨b, o + i * 12, none⟩ = some (.int .i64 x.kind) := by rw [← hxe]; exact hc 0 (by omega)
    rw [hii]
    clear hi hii hx hc hxe
    by_cases hk : x.kind = k
    · have hkd : (x.kind != k) = false := by simpa using hk
      have hk := Lib.hid hk
      go_wp2_with (go_at_call 24; refine (refAhead_any _ w.heap.size _ _ _ l i k (by omega) rfl hl (by exact HL.out)).mono ?_; rintro e w' ⟨rfl, rfl⟩)
      go_ret2
      exact ⟨by rw [hN.out, if_pos hk.out]; rfl, HC.out⟩
    · have hkd : (x.kind != k) = true := by simpa using hk
      have hk := Lib.hid hk
      go_wp2
      go_ret2
      exact ⟨by rw [hN.out, if_neg hk.out]; rfl, HC.out⟩
end Go.Proofs.Ytpppgnphblbbcaa
