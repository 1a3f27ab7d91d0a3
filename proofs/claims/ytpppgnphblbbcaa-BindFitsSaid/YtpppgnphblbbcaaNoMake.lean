/- The walk of make: a step's number. -/
import Derived.Test.YtpppgnphblbbcaaNoMk
import Derived.Test.YtpppgnphblbbcaaBnForm
import Derived.Deep.RegionLaw
import Derived.BigQuiet
namespace Go.Proofs.Ytpppgnphblbbcaa
open Go.RowKit

/-- What a call of the maker leaves. -/
def Made (B b mb : Nat) (rv : Value) (row : List Int) (r : List No.Stp × Int) (w : World) (e : Ending) (w' : World) : Prop :=
  e = .returned (.int .i64 r.2) ∧ (∃ lv', Mk w' B b mb lv' rv r.1 row) ∧ Chg (fun k => B ≤ k) w w'
theorem find_of {L : List No.Stp} {s : No.Stp} : (∃ k, L.findIdx? (fun x => No.eqS x s) = some k ∧ L[k]? = some s) ∨ (L.findIdx? (fun x => No.eqS x s) = none ∧ ∀ x ∈ L, x ≠ s) := by
  cases h : L.findIdx? (fun x => No.eqS x s) with
  | some k =>
    obtain ⟨h1, h2, _⟩ := List.findIdx?_eq_some_iff_getElem.1 h
    exact .inl ⟨k, rfl, by rw [List.getElem?_eq_getElem h1]; exact congrArg some (No.eqS_iff.1 h2)⟩
  | none =>
    refine .inr ⟨rfl, fun x hx e => ?_⟩
    rw [List.findIdx?_eq_none_iff] at h
    have := h x hx
    rw [No.eqS_iff.2 e] at this; cases this
def putN (L : List No.Stp) (s : No.Stp) : List No.Stp × Int := match L.findIdx? (fun x => No.eqS x s) with
  | some k => (L, (k : Int))
  | none => (L ++ [s], (L.length : Int))
theorem put_else {L : List No.Stp} {s : No.Stp} (h : ¬ (s.op = 15 ∧ No.opAt L s.a = 15)) : No.put L s = putN L s := by
  unfold No.put putN
  rw [if_neg h]
  cases L.findIdx? (fun x => No.eqS x s) <;> rfl
theorem stp_blk {w : World} {g : Nat} {s : No.Stp} (h : Blk w g 80 (stpA s)) : w.cell? ⟨g, 0, none⟩ = some (.int .i64 s.op) ∧ w.cell? ⟨g, 1, none⟩ = some (.int .i64 s.a) ∧ w.cell? ⟨g, 2, none⟩ = some (.int .i64 s.b) ∧ w.cell? ⟨g, 3, none⟩ = some (.int .i64 s.at_.op) ∧ w.cell? ⟨g, 4, none⟩ = some (.int .i64 s.at_.la) ∧ w.cell? ⟨g, 5, none⟩ = some (.int .i64 s.at_.lnum) ∧ w.cell? ⟨g, 6, none⟩ = some (.int .i64 s.at_.ra) ∧ w.cell? ⟨g, 7, none⟩ = some (.int .i64 s.at_.rnum) ∧ w.cell? ⟨g, 8, none⟩ = some (.int .i64 s.at_.n) ∧ w.cell? ⟨g, 9, none⟩ = some (.int .i64 s.at_.user) := by
  refine ⟨?_, ?_, ?_, ?_, ?_, ?_, ?_, ?_, ?_, ?_⟩ <;> rw [h.cell] <;> rfl
/-- Behind the append and the storing of a new step. -/
theorem mk_up {w w4 w5 : World} {B b mb : Nat} {lv rv : Value} {L : List No.Stp} {row : List Int} {s : No.Stp} {g cap : Nat} (h : Mk w4 B b mb lv rv L row) (hi : No.Inv (L ++ [s])) (hs : No.okS s) (hno : ∀ x ∈ L, x ≠ s) (hc4 : Chg (fun _ => False) w w4)
    (hc5 : Chg (fun k => lv.ownBlock = some k) w4 w5) (ho : w5.ownsRow B 80 10 (.slice (some ⟨g, 0, none⟩) (L.length + 1) cap) (L.length + 1) (L.flatMap stpC ++ stpC s)) :
    ∃ w6, (Instr.mapUpdate 130 (.map (some mb)) (.agg (stpA s)) (.int .i64 (L.length : Int))).run Try.prog ((w5.setCell ⟨b, 0, none⟩ (.slice (some ⟨g, 0, none⟩) (L.length + 1) cap)).drew) = .ok () w6 ∧
      (∃ lv', Mk w6 B b mb lv' rv (L ++ [s]) row) ∧ Chg (fun k => B ≤ k) w w6 := by
  have hB5 : Blk w5 b 132 #[lv, .map (some mb), rv] := h.blk.chg hc5 (own_blk_ne h.ownL h.blk (by decide))
  have hM5 : MapAt Try.prog w5 mb 80 (kvs L) := h.map.chg hc5 (h.map.ne_own h.ownL)
  have hR5 : w5.ownsRow B 3 1 rv row.length (rowI row) := own_chg h.ownR hc5 (fun k hk => own_own_ne h.ownR h.ownL (by decide) k hk)
  obtain ⟨w7, hw7⟩ : ∃ w7, w7 = (w5.setCell ⟨b, 0, none⟩ (.slice (some ⟨g, 0, none⟩) (L.length + 1) cap)).drew := ⟨_, rfl⟩
  rw [← hw7]
  have hbm : b ≠ mb := fun e => (hM5.ne_blk hB5) e.symm
  have hB7 : Blk w7 b 132 #[.slice (some ⟨g, 0, none⟩) (L.length + 1) cap, .map (some mb), rv] := by rw [hw7]; exact hB5.set 0 _
  have hM7 : MapAt Try.prog w7 mb 80 (kvs L) := by rw [hw7]; exact hM5.same (Below.heap_setCell _ _ _ _ (Ne.symm hbm))
  have hO7 : w7.ownsRow B 80 10 (.slice (some ⟨g, 0, none⟩) (L.length + 1) cap) (L.length + 1) (L.flatMap stpC ++ stpC s) := by rw [hw7]; exact own_set ho (p := ⟨b, 0, none⟩) (own_blk_ne ho hB5 (by decide)) _
  have hR7 : w7.ownsRow B 3 1 rv row.length (rowI row) := by rw [hw7]; exact own_set hR5 (p := ⟨b, 0, none⟩) (own_blk_ne hR5 hB5 (by decide)) _
  obtain ⟨l, hl⟩ := stp_key hs
  obtain ⟨w6, hup, hm8, hc8, _⟩ := hM7.fresh stp_keyed Try.underlying130 hl (fun p hp e => by
    obtain ⟨j, t, hj, rfl⟩ := kvs_mem hp
    exact hno t (List.mem_of_getElem? hj) (stp_inj e)) (.int .i64 (L.length : Int))
  have hlen : (L ++ [s]).length = L.length + 1 := by simp
  refine ⟨w6, hup, ⟨.slice (some ⟨g, 0, none⟩) (L.length + 1) cap, ⟨hB7.chg hc8 hbm, by rw [kvs_snoc]; exact hm8, ?_, ?_, h.hb, h.hmb, hi⟩⟩, ?_⟩
  · rw [hlen, List.flatMap_append]
    simp only [List.flatMap_cons, List.flatMap_nil, List.append_nil]
    exact own_chg hO7 hc8 (fun k hk e => by subst e; exact hM7.ne_own hO7 hk)
  · exact own_chg hR7 hc8 (fun k hk e => by subst e; exact hM7.ne_own hR7 hk)
  · have c1 : Chg (fun k => B ≤ k) w w5 := Chg.trans (hc4.mono (T := fun k => B ≤ k) (fun _ _ h => h.elim)) hc5 (fun i _ e => (h.ownL.lt i e).1)
    have c2 : Chg (fun k => B ≤ k) w w7 := by rw [hw7]; exact (c1.setCell (p := ⟨b, 0, none⟩) (.inl h.hb) _).drew
    exact Chg.trans c2 hc8 (fun i _ e => by subst e; exact h.hmb)
set_option maxRecDepth 100000 in
set_option maxHeartbeats 8000000 in
theorem make_any (w : World) (B b mb : Nat) (lv rv : Value) (L : List No.Stp) (row : List Int) (s : No.Stp) (h : Mk w B b mb lv rv L row) (hm : No.may L s) (hs : No.okS s) (hL : L.length ≤ 1000000) :
    Calls Try.prog 88 #[.pointer (some ⟨b, 0, none⟩), .agg (stpA s)] w fun e w' => Made B b mb rv row (No.put L s) w e w' := by
  have H0 := Lib.hid h
  have HM := Lib.hid hm
  have HS := Lib.hid hs
  have HBZ := Lib.hid h.base
  have HP := Lib.hid (No.put_gr h.inv hm hs)
  obtain ⟨i80, hi80, hz0, hz1, hz2⟩ := info_parts stp_info
  unfold stpA
  clear hm hs h
  go_enter Try.func88, Try.ntmps88
  go_wp2_with fail
  obtain ⟨w1, hw1⟩ : ∃ w1, w1 = w.alloc (.cells #[.int .i64 s.op, .int .i64 s.a, .int .i64 s.b, .int .i64 s.at_.op, .int .i64 s.at_.la, .int .i64 s.at_.lnum, .int .i64 s.at_.ra, .int .i64 s.at_.rnum, .int .i64 s.at_.n, .int .i64 s.at_.user] 80) := ⟨_, rfl⟩
  obtain ⟨xb, hxb⟩ : ∃ xb, xb = w.heap.size := ⟨_, rfl⟩
  rw [← hw1, ← hxb]
  have X1 : Hid (Blk w1 xb 80 (stpA s)) := by rw [hw1, hxb]; exact Blk.new _ _ _
  have C1 : Hid (Chg (fun _ => False) w w1) := by rw [hw1]; exact (Chg.refl _ _).alloc _
  have HXN : Hid (∀ k, lv.ownBlock = some k → xb ≠ k) := fun k hk e => by have := own_lt H0.out.ownL k hk; omega
  clear hw1 hxb
  have H1 := Lib.hid (H0.out.quiet C1.out)
  obtain ⟨m0, m1, m2⟩ := H1.out.cells
  obtain ⟨x0, x1, x2, x3, x4, x5, x6, x7, x8, x9⟩ := stp_blk X1.out
  by_cases h15 : s.op = 15
  ·
    have ha : 0 ≤ s.a ∧ s.a < L.length := by
      rcases HM.out with h1 | h1 | h1 | h1 <;> omega
    obtain ⟨k, hk⟩ : ∃ k : Nat, s.a = k := ⟨s.a.toNat, by omega⟩
    obtain ⟨y, hy⟩ : ∃ y, L[k]? = some y := ⟨_, List.getElem?_eq_getElem (by omega)⟩
    obtain ⟨g, cap, hlv, hgl, y0, y1⟩ := H1.out.at hy
    have hop : No.opAt L s.a = y.op := by rw [hk]; exact No.opAt_in (by rw [Int.toNat_natCast]; exact hy)
    have d15 : (s.op == 15) = true := by simpa using h15
    have hkl : k < L.length := by omega
    have m0' := m0
    rw [hlv] at m0'
    rw [hk] at x1
    by_cases hyo : y.op = 15
    · have HV : Hid (No.put L s = (L, y.a)) := by
        show _ = _
        unfold No.put
        rw [if_pos ⟨h15, by rw [hop]; exact hyo⟩, hk]
        unfold No.aAt
        rw [Int.toNat_natCast, hy]
      have e15 : (y.op == 15) = true := by simpa using hyo
      have HK := Lib.hid hk
      clear h15 ha hk hy hop hyo hlv m0 hgl hL
      go_quiet (fail)
      go_wp2
      go_quiet (fail)
      go_wp2
      go_ret
      rw [HV.out]
      exact ⟨rfl, ⟨_, H0.out.quiet ((C1.out.drewN _).drewN _)⟩, ((C1.out.drewN _).drewN _).mono (fun _ _ h => h.elim)⟩
    · have HP0 : Hid (No.put L s = putN L s) := put_else (fun h => hyo (by rw [← hop]; exact h.2))
      have e15 : (y.op == 15) = false := by simpa using hyo
      have HK := Lib.hid hk
      clear h15 ha hk hy hop hyo hlv hgl
      replace m0 := m0'
      go_quiet (fail)
      clear y0 y1 d15 e15 hkl
      obtain ⟨w3, hw3⟩ : ∃ w3, w3 = w1.drewN nq := ⟨_, rfl⟩
      rw [← hw3]
      have X3 : Hid (Blk w3 xb 80 (stpA s)) := by rw [hw3]; exact X1.out
      have C3 : Hid (Chg (fun _ => False) w w3) := by rw [hw3]; exact C1.out.drewN nq
      have H3 := Lib.hid (H0.out.quiet C3.out)
      clear hw3 m0 m1 m2 x0 x1 x2 x3 x4 x5 x6 x7 x8 x9
      obtain ⟨m0, m1, m2⟩ := H3.out.cells
      obtain ⟨x0, x1, x2, x3, x4, x5, x6, x7, x8, x9⟩ := stp_blk X3.out
      rcases find_of (L := L) (s := s) with ⟨k, hf, hk⟩ | ⟨hf, hno⟩
      · have HV : Hid (No.put L s = (L, (k : Int))) := by show _ = _; rw [HP0.out]; unfold putN; rw [hf]
        have hlk : ∀ nq, (Instr.lookup 130 (.map (some mb)) (.agg (stpA s)) true).run Try.prog (w3.drewN nq) = .ok (.tuple #[.int .i64 (k : Int), .bool true]) (w3.drewN nq) := fun nq => (H3.out.quiet ((Chg.refl _ w3).drewN nq)).hit hk
        unfold stpA at hlk
        clear hf hk
        go_wp2_with fail
        go_quiet (fail)
        have C4 := Lib.hid (C3.out.drewN nq)
        have H4 := Lib.hid (H0.out.quiet C4.out)
        clear hlk m0 m1 m2 x0 x1 x2 x3 x4 x5 x6 x7 x8 x9
        go_wp2
        go_ret
        rw [HV.out]
        exact ⟨rfl, ⟨_, H4.out⟩, C4.out.mono (fun _ _ h => h.elim)⟩
      · have HV : Hid (No.put L s = (L ++ [s], (L.length : Int))) := by show _ = _; rw [HP0.out]; unfold putN; rw [hf]
        have HNO := Lib.hid hno
        have hlk : ∀ nq, (Instr.lookup 130 (.map (some mb)) (.agg (stpA s)) true).run Try.prog (w3.drewN nq) = .ok (.tuple #[.int .i64 0, .bool false]) (w3.drewN nq) := fun nq => (H3.out.quiet ((Chg.refl _ w3).drewN nq)).miss HS.out HNO.out
        unfold stpA at hlk
        clear hf hno
        go_wp2_with fail
        go_quiet (fail)
        obtain ⟨w4, hw4⟩ : ∃ w4, w4 = w3.drewN nq := ⟨_, rfl⟩
        rw [← hw4]
        have X4 : Hid (Blk w4 xb 80 (stpA s)) := by rw [hw4]; exact X3.out
        have C4 : Hid (Chg (fun _ => False) w w4) := by rw [hw4]; exact C3.out.drewN nq
        have H4 := Lib.hid (H0.out.quiet C4.out)
        clear hw4 hlk m0 m1 m2 x0 x1 x2 x3 x4 x5 x6 x7 x8 x9
        obtain ⟨m0, m1, m2⟩ := H4.out.cells
        obtain ⟨x0, x1, x2, x3, x4, x5, x6, x7, x8, x9⟩ := stp_blk X4.out
        obtain ⟨A, cap0, hlv, _, _⟩ := own_slice H4.out.ownL
        rw [hlv] at m0
        have HO4 := Lib.hid H4.out.ownL
        have HBL : Hid (B ≤ w4.heap.size) := H4.out.base
        have hfr := H4.out.blk.frozen 0
        have hlv := Lib.hid hlv
        rw [hlv.out] at HO4
        have hbl := H4.out.blk.lt
        have hxl := X4.out.lt
        have HLL := Lib.hid hL
        go_wp2_with fail
        go_region_law (refine step_append_lies _ rfl (.tmp 52) (.tmp 54) 73 rfl B 80 i80 _ 10 80 Try.underlying73 hi80 hz0 hz1 hz2 rfl (by omega) (.slice A L.length cap0) L.length (L.flatMap stpC) rfl (by exact World.ownsRow.alloc (w := w4.drew) HO4.out _) ⟨w4.heap.size, 0, none⟩ 1 1 (stpC s) rfl rfl (by exact all_new (Blk.new w4.drew 80 (stpA s))) (by intro u hu; simp [stpC] at hu; rcases hu with rfl | rfl | rfl | rfl | rfl | rfl | rfl | rfl | rfl | rfl <;> rfl) (by omega) (by unfold maxLen; omega) (by omega) (by simp; have := HBL.out; omega) (w4.heap.size + 1) (by simp) ?_; intro g cap w5 hown5 hg5 hat5 hlt5; have HC5 : Hid (Chg (fun k => lv.ownBlock = some k) w4 w5) := (by show Chg (fun k => lv.ownBlock = some k) w4 w5; rw [hlv.out]; first | exact Chg.grown (((Chg.refl _ w4).alloc _).drew) hg5 (fun k hk => .inl hk) | exact Chg.grown (((Chg.refl _ w4).drew).alloc _) hg5 (fun k hk => .inl hk)); have HB5 := Lib.hid (H4.out.blk.chg HC5.out (own_blk_ne H4.out.ownL H4.out.blk (by decide))); have m5 : w5.cell? ⟨b, 0, none⟩ = some lv := (by rw [HB5.out.cell]; rfl); have g5 := HB5.out.frozen 0; have X5 := Lib.hid (X4.out.chg HC5.out (fun hk => HXN.out _ hk rfl)); have HO5 := Lib.hid hown5; clear hown5 hg5 hat5 hlt5)
        all_goals
          have hinv := HP.out.inv
          rw [HV.out] at hinv
          obtain ⟨w6, hup, hmk, hcc⟩ := mk_up H4.out hinv HS.out HNO.out C4.out HC5.out HO5.out
          have hxbb : xb ≠ b := fun e => Blk.ne_ X5.out HB5.out (by decide) e
          obtain ⟨w7, hw7⟩ : ∃ w7, w7 = w5.setCell ⟨b, 0, none⟩ (.slice (some ⟨g, 0, none⟩) (L.length + 1) cap) := ⟨_, rfl⟩
          have B7 : Blk w7 b 132 #[.slice (some ⟨g, 0, none⟩) (L.length + 1) cap, .map (some mb), rv] := by rw [hw7]; exact HB5.out.set 0 _
          have X7 : Blk w7 xb 80 (stpA s) := by rw [hw7]; exact X5.out.far (p := ⟨b, 0, none⟩) hxbb _
          rw [← hw7] at hup ⊢
          replace hmk := Lib.hid hmk
          replace hcc := Lib.hid hcc
          clear hw7 hinv hxbb m0 m1 m2 x0 x1 x2 x3 x4 x5 x6 x7 x8 x9 m5 g5 hfr hbl hxl
          have m1 : w7.cell? ⟨b, 1, none⟩ = some (.map (some mb)) := by rw [B7.cell]; rfl
          obtain ⟨x0, x1, x2, x3, x4, x5, x6, x7, x8, x9⟩ := stp_blk X7
          unfold stpA at hup
          clear B7 X7
          go_wp2_with fail
          go_region
          go_wp2
          go_ret
          rw [HV.out]
          exact ⟨rfl, hmk.out, hcc.out⟩
  ·
    have HP0 : Hid (No.put L s = putN L s) := put_else (fun h => h15 h.1)
    have d15 : (s.op == 15) = false := by simpa using h15
    clear h15
    go_quiet (fail)
    clear d15
    obtain ⟨w3, hw3⟩ : ∃ w3, w3 = w1.drewN nq := ⟨_, rfl⟩
    rw [← hw3]
    have X3 : Hid (Blk w3 xb 80 (stpA s)) := by rw [hw3]; exact X1.out
    have C3 : Hid (Chg (fun _ => False) w w3) := by rw [hw3]; exact C1.out.drewN nq
    have H3 := Lib.hid (H0.out.quiet C3.out)
    clear hw3 m0 m1 m2 x0 x1 x2 x3 x4 x5 x6 x7 x8 x9
    obtain ⟨m0, m1, m2⟩ := H3.out.cells
    obtain ⟨x0, x1, x2, x3, x4, x5, x6, x7, x8, x9⟩ := stp_blk X3.out
    rcases find_of (L := L) (s := s) with ⟨k, hf, hk⟩ | ⟨hf, hno⟩
    · have HV : Hid (No.put L s = (L, (k : Int))) := by show _ = _; rw [HP0.out]; unfold putN; rw [hf]
      have hlk : ∀ nq, (Instr.lookup 130 (.map (some mb)) (.agg (stpA s)) true).run Try.prog (w3.drewN nq) = .ok (.tuple #[.int .i64 (k : Int), .bool true]) (w3.drewN nq) := fun nq => (H3.out.quiet ((Chg.refl _ w3).drewN nq)).hit hk
      unfold stpA at hlk
      clear hf hk
      go_wp2_with fail
      go_quiet (fail)
      have C4 := Lib.hid (C3.out.drewN nq)
      have H4 := Lib.hid (H0.out.quiet C4.out)
      clear hlk m0 m1 m2 x0 x1 x2 x3 x4 x5 x6 x7 x8 x9
      go_wp2
      go_ret
      rw [HV.out]
      exact ⟨rfl, ⟨_, H4.out⟩, C4.out.mono (fun _ _ h => h.elim)⟩
    · have HV : Hid (No.put L s = (L ++ [s], (L.length : Int))) := by show _ = _; rw [HP0.out]; unfold putN; rw [hf]
      have HNO := Lib.hid hno
      have hlk : ∀ nq, (Instr.lookup 130 (.map (some mb)) (.agg (stpA s)) true).run Try.prog (w3.drewN nq) = .ok (.tuple #[.int .i64 0, .bool false]) (w3.drewN nq) := fun nq => (H3.out.quiet ((Chg.refl _ w3).drewN nq)).miss HS.out HNO.out
      unfold stpA at hlk
      clear hf hno
      go_wp2_with fail
      go_quiet (fail)
      obtain ⟨w4, hw4⟩ : ∃ w4, w4 = w3.drewN nq := ⟨_, rfl⟩
      rw [← hw4]
      have X4 : Hid (Blk w4 xb 80 (stpA s)) := by rw [hw4]; exact X3.out
      have C4 : Hid (Chg (fun _ => False) w w4) := by rw [hw4]; exact C3.out.drewN nq
      have H4 := Lib.hid (H0.out.quiet C4.out)
      clear hw4 hlk m0 m1 m2 x0 x1 x2 x3 x4 x5 x6 x7 x8 x9
      obtain ⟨m0, m1, m2⟩ := H4.out.cells
      obtain ⟨x0, x1, x2, x3, x4, x5, x6, x7, x8, x9⟩ := stp_blk X4.out
      obtain ⟨A, cap0, hlv, _, _⟩ := own_slice H4.out.ownL
      rw [hlv] at m0
      have HO4 := Lib.hid H4.out.ownL
      have HBL : Hid (B ≤ w4.heap.size) := H4.out.base
      have hfr := H4.out.blk.frozen 0
      have hlv := Lib.hid hlv
      rw [hlv.out] at HO4
      have hbl := H4.out.blk.lt
      have hxl := X4.out.lt
      have HLL := Lib.hid hL
      go_wp2_with fail
      go_region_law (refine step_append_lies _ rfl (.tmp 52) (.tmp 54) 73 rfl B 80 i80 _ 10 80 Try.underlying73 hi80 hz0 hz1 hz2 rfl (by omega) (.slice A L.length cap0) L.length (L.flatMap stpC) rfl (by exact World.ownsRow.alloc (w := w4.drew) HO4.out _) ⟨w4.heap.size, 0, none⟩ 1 1 (stpC s) rfl rfl (by exact all_new (Blk.new w4.drew 80 (stpA s))) (by intro u hu; simp [stpC] at hu; rcases hu with rfl | rfl | rfl | rfl | rfl | rfl | rfl | rfl | rfl | rfl <;> rfl) (by omega) (by unfold maxLen; omega) (by omega) (by simp; have := HBL.out; omega) (w4.heap.size + 1) (by simp) ?_; intro g cap w5 hown5 hg5 hat5 hlt5; have HC5 : Hid (Chg (fun k => lv.ownBlock = some k) w4 w5) := (by show Chg (fun k => lv.ownBlock = some k) w4 w5; rw [hlv.out]; first | exact Chg.grown (((Chg.refl _ w4).alloc _).drew) hg5 (fun k hk => .inl hk) | exact Chg.grown (((Chg.refl _ w4).drew).alloc _) hg5 (fun k hk => .inl hk)); have HB5 := Lib.hid (H4.out.blk.chg HC5.out (own_blk_ne H4.out.ownL H4.out.blk (by decide))); have m5 : w5.cell? ⟨b, 0, none⟩ = some lv := (by rw [HB5.out.cell]; rfl); have g5 := HB5.out.frozen 0; have X5 := Lib.hid (X4.out.chg HC5.out (fun hk => HXN.out _ hk rfl)); have HO5 := Lib.hid hown5; clear hown5 hg5 hat5 hlt5)
      all_goals
        have hinv := HP.out.inv
        rw [HV.out] at hinv
        obtain ⟨w6, hup, hmk, hcc⟩ := mk_up H4.out hinv HS.out HNO.out C4.out HC5.out HO5.out
        have hxbb : xb ≠ b := fun e => Blk.ne_ X5.out HB5.out (by decide) e
        obtain ⟨w7, hw7⟩ : ∃ w7, w7 = w5.setCell ⟨b, 0, none⟩ (.slice (some ⟨g, 0, none⟩) (L.length + 1) cap) := ⟨_, rfl⟩
        have B7 : Blk w7 b 132 #[.slice (some ⟨g, 0, none⟩) (L.length + 1) cap, .map (some mb), rv] := by rw [hw7]; exact HB5.out.set 0 _
        have X7 : Blk w7 xb 80 (stpA s) := by rw [hw7]; exact X5.out.far (p := ⟨b, 0, none⟩) hxbb _
        rw [← hw7] at hup ⊢
        replace hmk := Lib.hid hmk
        replace hcc := Lib.hid hcc
        clear hw7 hinv hxbb m0 m1 m2 x0 x1 x2 x3 x4 x5 x6 x7 x8 x9 m5 g5 hfr hbl hxl
        have m1 : w7.cell? ⟨b, 1, none⟩ = some (.map (some mb)) := by rw [B7.cell]; rfl
        obtain ⟨x0, x1, x2, x3, x4, x5, x6, x7, x8, x9⟩ := stp_blk X7
        unfold stpA at hup
        clear B7 X7
        go_wp2_with fail
        go_region
        go_wp2
        go_ret
        rw [HV.out]
        exact ⟨rfl, hmk.out, hcc.out⟩
end Go.Proofs.Ytpppgnphblbbcaa
