/- Statements in memory; the walks of the small functions on kinds, and of the reference's Ahead, Find, Most. -/
import Derived.Test.YtpppgnphblbbcaaMaps
import Derived.Test.YtpppgnphblbbcaaNmPlain
import Derived.Test.YtpppgnphblbbcaaRows
import Derived.Deep.QuietTactic
import Derived.BigQuiet
import Derived.Deep.RegionWith
import Derived.Deep.RegionLaw
namespace Go.Proofs.Ytpppgnphblbbcaa
open Go.RowKit

/-- A statement's twelve cells: the four that are read, and the others. -/
structure StmC where
  s : Nm.Stm
  ini : Int
  nA : Option Addr
  nn : Nat
  nc : Nat
  role : ByteArray
  stage : ByteArray
  ev : ByteArray
  tms : Int
  fA : Option Addr
  fn : Nat
  fc : Nat
  fin : Bool
def StmC.cells (x : StmC) : List Value := [.int .i64 x.s.kind, .string x.s.name, .int .i64 x.s.line, .int .i64 x.s.col, .int .i64 x.ini, .slice x.nA x.nn x.nc, .string x.role, .string x.stage, .string x.ev, .int .i64 x.tms, .slice x.fA x.fn x.fc, .bool x.fin]
def stms (l : List StmC) : List Nm.Stm := l.map (·.s)
def cellsOf (l : List StmC) : List Value := l.flatMap StmC.cells
theorem cellsOf_len (l : List StmC) : (cellsOf l).length = l.length * 12 := by
  unfold cellsOf
  induction l with
  | nil => rfl
  | cons x l ih => simp only [List.flatMap_cons, List.length_append, ih, List.length_cons]; simp only [StmC.cells, List.length_cons, List.length_nil]; omega
theorem cellsOf_get : ∀ (l : List StmC) (i j : Nat) (hi : i < l.length), j < 12 → (cellsOf l)[i * 12 + j]? = (l[i].cells)[j]?
  | x :: l, 0, j, _, hj => by
    unfold cellsOf
    rw [List.flatMap_cons, List.getElem?_append_left (by simp [StmC.cells]; omega)]
    simp
  | x :: l, i + 1, j, hi, hj => by
    have h := cellsOf_get l i j (by simpa using hi) hj
    unfold cellsOf at h ⊢
    rw [List.flatMap_cons, List.getElem?_append_right (by simp [StmC.cells]; omega)]
    have e : (i + 1) * 12 + j - x.cells.length = i * 12 + j := by simp only [StmC.cells, List.length_cons, List.length_nil]; omega
    rw [e, h]; rfl
/-- A slice of statements, at its address: each cell of each. -/
theorem stm_at {w : World} {B : Nat} {A : Option Addr} {l : List StmC} (h : Rd w B A (cellsOf l)) {i : Nat} (hi : i < l.length) : ∃ b o, A = some ⟨b, o, none⟩ ∧ b < B ∧ ∀ j, j < 12 → w.cell? ⟨b, o + (i * 12 + j), none⟩ = (l[i].cells)[j]? := by
  obtain ⟨b, o, hA, hb, hc⟩ := h.plain (by rw [cellsOf_len]; omega)
  refine ⟨b, o, hA, hb, fun j hj => ?_⟩
  have hg := cellsOf_get l i j hi hj
  have hl : (l[i].cells)[j]? = some ((l[i].cells)[j]'(by simp only [StmC.cells, List.length_cons, List.length_nil]; omega)) := List.getElem?_eq_getElem _
  rw [hl] at hg ⊢
  exact hc _ _ hg
/-- The twelve cells of one statement, written out. -/
theorem stm_cells {w : World} {b o i : Nat} {x : StmC} (hc : ∀ j, j < 12 → w.cell? ⟨b, o + (i * 12 + j), none⟩ = (x.cells)[j]?) :
    w.cell? ⟨b, o + i * 12, none⟩ = some (.int .i64 x.s.kind) ∧ w.cell? ⟨b, o + i * 12 + 1, none⟩ = some (.string x.s.name) ∧ w.cell? ⟨b, o + i * 12 + 2, none⟩ = some (.int .i64 x.s.line) ∧ w.cell? ⟨b, o + i * 12 + 3, none⟩ = some (.int .i64 x.s.col) ∧
    w.cell? ⟨b, o + i * 12 + 4, none⟩ = some (.int .i64 x.ini) ∧ w.cell? ⟨b, o + i * 12 + 5, none⟩ = some (.slice x.nA x.nn x.nc) ∧ w.cell? ⟨b, o + i * 12 + 6, none⟩ = some (.string x.role) ∧ w.cell? ⟨b, o + i * 12 + 7, none⟩ = some (.string x.stage) ∧ w.cell? ⟨b, o + i * 12 + 8, none⟩ = some (.string x.ev) ∧
    w.cell? ⟨b, o + i * 12 + 9, none⟩ = some (.int .i64 x.tms) ∧ w.cell? ⟨b, o + i * 12 + 10, none⟩ = some (.slice x.fA x.fn x.fc) ∧ w.cell? ⟨b, o + i * 12 + 11, none⟩ = some (.bool x.fin) :=
  ⟨hc 0 (by omega), hc 1 (by omega), hc 2 (by omega), hc 3 (by omega), hc 4 (by omega), hc 5 (by omega), hc 6 (by omega), hc 7 (by omega), hc 8 (by omega), hc 9 (by omega), hc 10 (by omega), hc 11 (by omega)⟩

set_option maxHeartbeats 400000 in
theorem known_any (w : World) (k : Int) : Calls Try.prog 54 #[.int .i64 k] w fun e w' => e = .returned (.bool (Nm.known k)) ∧ w = w' := by
  by_cases h1 : 1 ≤ k
  · have h2 : decide (1 ≤ k) = true := by simpa using h1
    go_enter Try.func54, Try.ntmps54
    go_wp2
    go_ret
    exact ⟨ret_val (by unfold Nm.known; rw [h2]; rfl), rfl⟩
  · have h2 : decide (1 ≤ k) = false := by simpa using h1
    go_enter Try.func54, Try.ntmps54
    go_wp2
    go_ret
    exact ⟨ret_val (by unfold Nm.known; rw [h2]; rfl), rfl⟩
set_option maxHeartbeats 400000 in
theorem named_any (w : World) (k : Int) : Calls Try.prog 74 #[.int .i64 k] w fun e w' => e = .returned (.bool (Nm.isNamed k)) ∧ w = w' := by
  by_cases h1 : k = 6
  · subst h1
    go_enter Try.func74, Try.ntmps74
    go_wp2
    go_ret
    exact ⟨rfl, rfl⟩
  · have h2 : (k != 6) = true := by simpa using h1
    go_enter Try.func74, Try.ntmps74
    go_wp2
    go_ret
    exact ⟨ret_val (by unfold Nm.isNamed; rw [h2]; rfl), rfl⟩
set_option maxHeartbeats 1000000 in
theorem most_any (w : World) (k : Int) : Calls Try.prog 73 #[.int .i64 k] w fun e w' => e = .returned (.int .i64 (Nm.most k)) ∧ w = w' := by
  go_enter Try.func73, Try.ntmps73
  go_wp2
  all_goals
    go_ret
    refine ⟨ret_int ?_, rfl⟩
    simp_all [Nm.most]

set_option maxHeartbeats 400000 in
theorem refNamed_any (w : World) (x : StmC) : Calls Try.prog 56 #[.agg x.cells.toArray] w fun e w' => e = .returned (.bool (Nm.isNamed x.s.kind)) ∧ Chg (fun _ => False) w w' := by
  unfold StmC.cells
  obtain ⟨⟨k, nm, ln, cl⟩, ini, nA, nn, nc, ro, st, ev, tm, fA, fn, fc, fi⟩ := x
  dsimp only
  have B := Blk.new w 35 #[.int .i64 k, .string nm, .int .i64 ln, .int .i64 cl, .int .i64 ini, .slice nA nn nc, .string ro, .string st, .string ev, .int .i64 tm, .slice fA fn fc, .bool fi]
  have c0 : (w.alloc (.cells #[.int .i64 k, .string nm, .int .i64 ln, .int .i64 cl, .int .i64 ini, .slice nA nn nc, .string ro, .string st, .string ev, .int .i64 tm, .slice fA fn fc, .bool fi] 35)).cell? ⟨w.heap.size, 0, none⟩ = some (.int .i64 k) := by rw [B.cell]; rfl
  have hC := Lib.hid ((Chg.refl (fun _ => False) w).alloc (.cells #[.int .i64 k, .string nm, .int .i64 ln, .int .i64 cl, .int .i64 ini, .slice nA nn nc, .string ro, .string st, .string ev, .int .i64 tm, .slice fA fn fc, .bool fi] 35))
  clear B
  by_cases h1 : k = 6
  · subst h1
    go_enter Try.func56, Try.ntmps56
    go_wp2
    go_ret
    exact ⟨rfl, hC.out⟩
  · have h2 : (k != 6) = true := by simpa using h1
    go_enter Try.func56, Try.ntmps56
    go_wp2
    go_ret
    exact ⟨ret_val (by unfold Nm.isNamed; rw [h2]; rfl), hC.out⟩

theorem refNamed_x (w : World) (x : StmC) : Calls Try.prog 56 #[.agg #[.int .i64 x.s.kind, .string x.s.name, .int .i64 x.s.line, .int .i64 x.s.col, .int .i64 x.ini, .slice x.nA x.nn x.nc, .string x.role, .string x.stage, .string x.ev, .int .i64 x.tms, .slice x.fA x.fn x.fc, .bool x.fin]] w fun e w' => e = .returned (.bool (Nm.isNamed x.s.kind)) ∧ Chg (fun _ => False) w w' := refNamed_any w x

set_option maxHeartbeats 400000 in
theorem refMost_any (w : World) (k : Int) (hk : Nm.known k = true) : Calls Try.prog 55 #[.int .i64 k] w fun e w' => e = .returned (.int .i64 (Nm.most k)) ∧ Chg (fun _ => False) w w' := by
  have hk' : 1 ≤ k ∧ k ≤ 8 := by unfold Nm.known at hk; simpa using hk
  have B := Blk.new w 3 #[.int .i64 0, .int .i64 5, .int .i64 4, .int .i64 4, .int .i64 8, .int .i64 6, .int .i64 12, .int .i64 8, .int .i64 6]
  have hC := Lib.hid ((Chg.refl (fun _ => False) w).alloc (.cells #[.int .i64 0, .int .i64 5, .int .i64 4, .int .i64 4, .int .i64 8, .int .i64 6, .int .i64 12, .int .i64 8, .int .i64 6] 3))
  obtain ⟨j, rfl⟩ : ∃ j : Nat, k = (j : Int) := ⟨k.toNat, by omega⟩
  obtain ⟨h1, h2⟩ := hk'
  have hc : (w.alloc (.cells #[.int .i64 0, .int .i64 5, .int .i64 4, .int .i64 4, .int .i64 8, .int .i64 6, .int .i64 12, .int .i64 8, .int .i64 6] 3)).cell? ⟨w.heap.size, j, none⟩ = some (.int .i64 (Nm.most j)) := by
    rw [B.cell]
    have hj : j = 1 ∨ j = 2 ∨ j = 3 ∨ j = 4 ∨ j = 5 ∨ j = 6 ∨ j = 7 ∨ j = 8 := by omega
    rcases hj with rfl | rfl | rfl | rfl | rfl | rfl | rfl | rfl <;> rfl
  clear B hk
  go_enter Try.func55, Try.ntmps55
  go_wp2
  go_ret
  exact ⟨rfl, hC.out⟩

theorem take_snoc' {α : Type} (l : List α) (k : Nat) (h : k < l.length) : l.take (k + 1) = l.take k ++ [l[k]] := List.take_succ_eq_append_getElem h

set_option maxHeartbeats 400000 in
theorem refAhead_any (w : World) (B : Nat) (A : Option Addr) (n c : Nat) (l : List StmC) (at_ : Nat) (k : Int) (hat : at_ ≤ l.length) (hn : n = l.length) (hl : l.length ≤ 1000000) (h : Rd w B A (cellsOf l)) :
    Calls Try.prog 24 #[.slice A n c, .int .i64 at_, .int .i64 k] w fun e w' => e = .returned (.int .i64 (Nm.ahead ((stms l).take at_) k)) ∧ w = w' := by
  subst hn
  have H := Lib.hid h
  clear h
  go_enter Try.func24, Try.ntmps24
  go_wp2
  go_loop [7, 8] (fun x i => ∃ j : Nat, j ≤ at_ ∧ i = .int .i64 j ∧ x = .int .i64 (Nm.ahead ((stms l).take j) k)) (fun _ i => at_ - (intOf i).toNat)
  case atStart => exact ⟨0, Nat.zero_le _, rfl, rfl⟩
  case round =>
    obtain ⟨j, hj, rfl, rfl⟩ := hrel
    have hb := Nm.ahead_le ((stms l).take j) k
    have hb2 : ((stms l).take j).length ≤ j := List.length_take_le _ _
    by_cases hlt : j < at_
    · have hjl : j < l.length := by omega
      obtain ⟨b, o, hA, _, hc⟩ := stm_at H.out hjl
      subst hA
      have c0 : w.cell? ⟨b, o + j * 12, none⟩ = some (.int .i64 l[j].s.kind) := hc 0 (by omega)
      have hst : (stms l).take (j + 1) = (stms l).take j ++ [l[j].s] := by
        rw [take_snoc' _ _ (by simpa [stms] using hjl)]; simp [stms]
      have hsn := Lib.hid (Nm.ahead_snoc ((stms l).take j) l[j].s k)
      rw [← hst] at hsn
      obtain ⟨kk, hkk⟩ : ∃ kk, kk = l[j].s.kind := ⟨_, rfl⟩
      rw [← hkk] at c0 hsn
      obtain ⟨q, hq⟩ : ∃ q, q = Nm.ahead ((stms l).take j) k := ⟨_, rfl⟩
      rw [← hq] at hb hsn ⊢
      clear hc hst hkk hq
      by_cases he : kk = k
      · subst he
        have ht : (kk == kk) = true := by simp
        go_wp2
        go_round
        case rel => exact ⟨j + 1, by omega, by go_num, by rw [hsn.out, if_pos rfl]; go_num⟩
        case measure => simp [intOf]; omega
      · have ht : (kk == k) = false := by simpa using he
        have he := Lib.hid he
        go_wp2
        go_round
        case rel => exact ⟨j + 1, by omega, by go_num, by rw [hsn.out, if_neg he.out]; rfl⟩
        case measure => simp [intOf]; omega
    · obtain rfl : j = at_ := by omega
      go_wp2
      go_ret
      exact ⟨rfl, rfl⟩

set_option maxHeartbeats 1000000 in
theorem refFind_any (w : World) (A : Option Addr) (n c : Nat) (l : List StmC) (at_ : Nat) (name : ByteArray) (hat : at_ ≤ l.length) (hn : n = l.length) (hl : l.length ≤ 1000000) (h : Rd w w.heap.size A (cellsOf l)) :
    Calls Try.prog 23 #[.slice A n c, .int .i64 at_, .string name] w fun e w' => e = .returned (.int .i64 (Nm.findI ((stms l).take at_) name)) ∧ Chg (fun _ => False) w w' := by
  subst hn
  have H := Lib.hid h
  clear h
  go_enter Try.func23, Try.ntmps23
  go_wp2
  go_loopw [7] (fun i wr => ∃ j : Nat, j ≤ at_ ∧ i = .int .i64 j ∧ Hid (∀ (i : Nat) y, i < j → ((stms l).take at_)[i]? = some y → Nm.hit name y = false) ∧ Hid (Chg (fun _ => False) w wr)) (fun i _ => at_ - (intOf i).toNat)
  case atStart => exact ⟨0, Nat.zero_le _, rfl, fun i _ hi => by omega, Chg.refl _ _⟩
  case round =>
    obtain ⟨j, hj, rfl, hno, hC⟩ := hrel
    by_cases hlt : j < at_
    · have hjl : j < l.length := by omega
      obtain ⟨b, o, hA, had, hc⟩ := stm_at (H.out.chg hC.out (Nat.le_refl _) (fun _ h => h.elim)) hjl
      subst hA
      obtain ⟨x, hx⟩ : ∃ x, x = l[j] := ⟨_, rfl⟩
      rw [← hx] at hc
      have hxs : Hid (((stms l).take at_)[j]? = some x.s) := by
        show ((stms l).take at_)[j]? = some x.s
        rw [hx, List.getElem?_take_of_lt hlt]; simp [stms, hjl]
      obtain ⟨c0, c1, c2, c3, c4, c5, c6, c7, c8, c9, c10, c11⟩ := stm_cells hc
      have hwl : b < wr.heap.size := by have := hC.out.size; omega
      have had' := Lib.hid had
      clear hc hx had
      go_wp2_with fail
      refine (refNamed_x wr x).mono ?_
      rintro e w2 ⟨rfl, hC2⟩
      have d1 : w2.cell? ⟨b, o + j * 12 + 1, none⟩ = some (.string x.s.name) := (hC2.cell (p := ⟨b, o + j * 12 + 1, none⟩) hwl (fun h => h)).trans c1
      have HC2 := Lib.hid (Chg.trans hC.out hC2 (fun _ _ h => h))
      clear c0 c1 c2 c3 c4 c5 c6 c7 c8 c9 c10 c11 hC2 hC
      obtain ⟨⟨kd, nm, ln, cl⟩, ini, nA, nn, nc, ro, st, ev, tm, fA, fn, fc, fi⟩ := x
      dsimp only at d1 hxs ⊢
      cases hk : Nm.isNamed kd with
      | false =>
        have hh : Hid (Nm.hit name ⟨kd, nm, ln, cl⟩ = false) := by show Nm.hit name ⟨kd, nm, ln, cl⟩ = false; unfold Nm.hit; rw [hk]; rfl
        clear hk
        go_wp2
        go_roundw
        case rel =>
          refine ⟨j + 1, by omega, by go_num, fun i y hi hy => ?_, HC2⟩
          rcases Nat.lt_or_ge i j with h1 | h1
          · exact hno.out i y h1 hy
          · obtain rfl : i = j := by omega
            rw [hxs.out] at hy
            injection hy with hy
            rw [← hy]; exact hh
        case measure => simp [intOf]; omega
      | true =>
        by_cases he : nm = name
        · have hh : Hid (Nm.hit name ⟨kd, nm, ln, cl⟩ = true) := Nm.hit_true.2 ⟨hk, he⟩
          have hfi := Lib.hid (Nm.findI_hit' hxs.out hh.out (fun i y hi hy => hno.out i y hi hy))
          have hs := str_same name
          rw [he] at d1
          clear hk he hh hno
          go_wp2
          go_ret
          exact ⟨ret_int hfi.out.symm, HC2.out⟩
        · have hh : Hid (Nm.hit name ⟨kd, nm, ln, cl⟩ = false) := by
            show Nm.hit name ⟨kd, nm, ln, cl⟩ = false
            unfold Nm.hit; simp [he]
          have hs := str_ne he
          clear hk he
          go_wp2
          go_roundw
          case rel =>
            refine ⟨j + 1, by omega, by go_num, fun i y hi hy => ?_, HC2⟩
            rcases Nat.lt_or_ge i j with h1 | h1
            · exact hno.out i y h1 hy
            · obtain rfl : i = j := by omega
              rw [hxs.out] at hy
              injection hy with hy
              rw [← hy]; exact hh
          case measure => simp [intOf]; omega
    · obtain rfl : j = at_ := by omega
      have hm := Lib.hid (Nm.findI_miss' (l := (stms l).take j) (name := name) (fun i y hy => hno.out i y (by have := (List.getElem?_eq_some_iff.1 hy).1; rw [List.length_take] at this; omega) hy))
      go_wp2
      go_ret
      exact ⟨ret_int hm.out.symm, hC.out⟩
end Go.Proofs.Ytpppgnphblbbcaa
