/- The walks of Check, the program's and the reference's: which steps may be. -/
import Derived.Test.YtpppgnphblbbcaaNoSteps
namespace Go.Proofs.Ytpppgnphblbbcaa
open Go.RowKit

/-- May a step stand at place i? -/
def stOk (i : Nat) (s : No.Stp) : Bool :=
  if s.op = 15 ∨ s.op = 20 ∨ s.op = 24 then decide (0 ≤ s.a ∧ s.a < (i : Int))
  else if s.op = 16 ∨ s.op = 26 then decide (0 ≤ s.a ∧ s.a < (i : Int)) && decide (0 ≤ s.b ∧ s.b < (i : Int))
  else decide (1 ≤ s.op ∧ s.op ≤ 14)
def okAt (L : List No.Stp) (i : Nat) : Bool := match L[i]? with
  | some s => stOk i s
  | none => true
def stAll (L : List No.Stp) : Bool := (List.range L.length).all (okAt L)
theorem okAt_at {L : List No.Stp} {i : Nat} {s : No.Stp} (h : L[i]? = some s) : okAt L i = stOk i s := by unfold okAt; rw [h]
theorem stAll_false {L : List No.Stp} {i : Nat} {s : No.Stp} (h : L[i]? = some s) (hv : stOk i s = false) : stAll L = false := by
  unfold stAll
  rw [List.all_eq_false]
  exact ⟨i, List.mem_range.2 (List.getElem?_eq_some_iff.1 h).1, by rw [okAt_at h, hv]; simp⟩
theorem stAll_true {L : List No.Stp} (h : ∀ i, i < L.length → okAt L i = true) : stAll L = true := by
  unfold stAll
  rw [List.all_eq_true]
  exact fun i hi => h i (List.mem_range.1 hi)
theorem up_next {L : List No.Stp} {j : Nat} {s : No.Stp} (h : ∀ i, i < j → okAt L i = true) (hs : L[j]? = some s) (hv : stOk j s = true) : ∀ i, i < j + 1 → okAt L i = true := fun i hi => by
  rcases Nat.lt_or_ge i j with h1 | h1
  · exact h i h1
  · obtain rfl : i = j := by omega
    rw [okAt_at hs, hv]
/-- The cells of one step of a row that came in. -/
theorem stp_row {w : World} {B : Nat} {A : Option Addr} {L : List No.Stp} (h : Rd w B A (L.flatMap stpC)) {i : Nat} {s : No.Stp} (hi : L[i]? = some s) :
    ∃ b o, A = some ⟨b, o, none⟩ ∧ b < B ∧ w.cell? ⟨b, o + i * 10, none⟩ = some (.int .i64 s.op) ∧ w.cell? ⟨b, o + i * 10 + 1, none⟩ = some (.int .i64 s.a) ∧ w.cell? ⟨b, o + i * 10 + 2, none⟩ = some (.int .i64 s.b) ∧ w.cell? ⟨b, o + i * 10 + 3, none⟩ = some (.int .i64 s.at_.op) ∧ w.cell? ⟨b, o + i * 10 + 4, none⟩ = some (.int .i64 s.at_.la) ∧ w.cell? ⟨b, o + i * 10 + 5, none⟩ = some (.int .i64 s.at_.lnum) ∧ w.cell? ⟨b, o + i * 10 + 6, none⟩ = some (.int .i64 s.at_.ra) ∧ w.cell? ⟨b, o + i * 10 + 7, none⟩ = some (.int .i64 s.at_.rnum) ∧ w.cell? ⟨b, o + i * 10 + 8, none⟩ = some (.int .i64 s.at_.n) ∧ w.cell? ⟨b, o + i * 10 + 9, none⟩ = some (.int .i64 s.at_.user) := by
  have hil : i < L.length := (List.getElem?_eq_some_iff.1 hi).1
  have he : L[i] = s := (List.getElem?_eq_some_iff.1 hi).2
  have hlen : (L.flatMap stpC).length = L.length * 10 := flat_len stpC stpC_len L
  obtain ⟨b, o, hA, hb, hc⟩ := h.plain (by rw [hlen]; omega)
  have key : ∀ (r : Nat) u, (stpC s)[r]? = some u → w.cell? ⟨b, o + i * 10 + r, none⟩ = some u := fun r u hr => by
    have hr7 : r < 10 := (List.getElem?_eq_some_iff.1 hr).1
    rw [Nat.add_assoc]
    exact hc (i * 10 + r) u (by rw [flat_get stpC stpC_len L i r hil hr7, he]; exact hr)
  exact ⟨b, o, hA, hb, key 0 _ rfl, key 1 _ rfl, key 2 _ rfl, key 3 _ rfl, key 4 _ rfl, key 5 _ rfl, key 6 _ rfl, key 7 _ rfl, key 8 _ rfl, key 9 _ rfl⟩
theorem ahead_any (w : World) (n i : Int) (p : Nat) (h : w.cell? ⟨p, 0, none⟩ = some (.int .i64 i)) : Calls Try.prog 65 #[.int .i64 n, .pointer (some ⟨p, 0, none⟩)] w fun e w' => e = .returned (.bool (decide (0 ≤ n ∧ n < i))) ∧ w = w' := by
  by_cases h1 : 0 ≤ n
  · by_cases h2 : n < i
    · have d1 : decide (0 ≤ n) = true := by simpa using h1
      have d2 : decide (n < i) = true := by simpa using h2
      have hd : Hid (decide (0 ≤ n ∧ n < i) = true) := by show _ = _; rw [decide_eq_true_iff]; exact ⟨h1, h2⟩
      clear h1 h2
      go_enter Try.func65, Try.ntmps65
      go_wp2
      go_ret
      exact ⟨by rw [hd.out]; rfl, rfl⟩
    · have d1 : decide (0 ≤ n) = true := by simpa using h1
      have d2 : decide (n < i) = false := by simpa using h2
      have hd : Hid (decide (0 ≤ n ∧ n < i) = false) := by show _ = _; rw [decide_eq_false_iff_not]; exact fun h => h2 h.2
      clear h1 h2
      go_enter Try.func65, Try.ntmps65
      go_wp2
      go_ret
      exact ⟨by rw [hd.out]; rfl, rfl⟩
  · have d1 : decide (0 ≤ n) = false := by simpa using h1
    have hd : Hid (decide (0 ≤ n ∧ n < i) = false) := by show _ = _; rw [decide_eq_false_iff_not]; exact fun h => h1 h.1
    clear h1
    go_enter Try.func65, Try.ntmps65
    go_wp2
    go_ret
    exact ⟨by rw [hd.out]; rfl, rfl⟩
set_option maxRecDepth 100000 in
set_option maxHeartbeats 16000000 in
theorem nCheck_any (w : World) (A : Option Addr) (c : Nat) (L : List No.Stp) (hl : L.length ≤ maxLen) (hr : Rd w w.heap.size A (L.flatMap stpC)) :
    Calls Try.prog 47 #[.slice A L.length c] w fun e w' => e = .returned (.bool (stAll L)) ∧ Chg (fun _ => False) w w' := by
  have HR := Lib.hid hr
  unfold maxLen at hl
  clear hr
  have hmf : ∀ (fn : Fn) (first cap : Array Value) (w : World), (Instr.makeFunc fn first cap).run Try.prog w = .ok (.func fn first cap) w := fun _ _ _ _ => rfl
  go_enter Try.func47, Try.ntmps47
  go_wp2
  go_loopw [9] (fun i wr => ∃ j : Nat, j ≤ L.length ∧ i = .int .i64 j ∧ Hid (∀ i, i < j → okAt L i = true) ∧ Hid (Chg (fun _ => False) w wr)) (fun i _ => L.length - (intOf i).toNat)
  case atStart => exact ⟨0, Nat.zero_le _, rfl, fun i hi => absurd hi (Nat.not_lt_zero _), Chg.refl _ _⟩
  case round =>
    obtain ⟨j, hj, rfl, HUP, HC⟩ := hrel
    by_cases hlt : j < L.length
    · obtain ⟨s, hs⟩ : ∃ s, L[j]? = some s := ⟨_, List.getElem?_eq_getElem hlt⟩
      obtain ⟨xb, o, hA, hxb, c0, c1, c2, c3, c4, c5, c6, c7, c8, c9⟩ := stp_row (HR.out.chg HC.out (Nat.le_refl _) (fun _ h => h.elim)) hs
      subst hA
      have HX := Lib.hid hs
      clear hs
      obtain ⟨op, a, b, at_⟩ := s
      dsimp only at c0 c1 c2 c3 c4 c5 c6 c7 c8 c9
      go_upto_region 4 with fail
      obtain ⟨w1, hw1⟩ : ∃ w1, w1 = (wr.alloc (.cells #[.int .i64 j] 3)).alloc (.cells #[.int .i64 op, .int .i64 a, .int .i64 b, .int .i64 at_.op, .int .i64 at_.la, .int .i64 at_.lnum, .int .i64 at_.ra, .int .i64 at_.rnum, .int .i64 at_.n, .int .i64 at_.user] 80) := ⟨_, rfl⟩
      obtain ⟨pb, hpb⟩ : ∃ pb, pb = wr.heap.size := ⟨_, rfl⟩
      obtain ⟨sb, hsb⟩ : ∃ sb, sb = wr.heap.size + 1 := ⟨_, rfl⟩
      have P1 : Blk w1 pb 3 #[.int .i64 j] := by rw [hw1, hpb]; exact (Blk.new _ _ _).alloc _
      have S1 : Blk w1 sb 80 (stpA ⟨op, a, b, at_⟩) := by rw [hw1, hsb]; exact blk_new2 _ _ _ _
      have C1 : Hid (Chg (fun _ => False) wr w1) := by rw [hw1]; exact ((Chg.refl _ _).alloc _).alloc _
      rw [← hw1, ← hsb, ← hpb]
      have q0 : w1.cell? ⟨pb, 0, none⟩ = some (.int .i64 j) := by rw [P1.cell]; rfl
      obtain ⟨x0, x1, x2, _⟩ := stp_blk S1
      have QA := Lib.hid (ahead_any w1 a j pb q0)
      have QB := Lib.hid (ahead_any w1 b j pb q0)
      clear hw1 hpb hsb P1 S1 c0 c1 c2 c3 c4 c5 c6 c7 c8 c9
      rcases (by omega : op < 1 ∨ (1 ≤ op ∧ op ≤ 14) ∨ (14 < op ∧ op ≠ 15 ∧ op ≠ 20 ∧ op ≠ 24 ∧ op ≠ 16 ∧ op ≠ 26) ∨ op = 15 ∨ op = 20 ∨ op = 24 ∨ op = 16 ∨ op = 26) with h1 | h1 | h1 | rfl | rfl | rfl | rfl | rfl
      ·
        have k15 : (op == 15) = false := by rw [beq_eq_false_iff_ne]; omega
        have k20 : (op == 20) = false := by rw [beq_eq_false_iff_ne]; omega
        have k24 : (op == 24) = false := by rw [beq_eq_false_iff_ne]; omega
        have k16 : (op == 16) = false := by rw [beq_eq_false_iff_ne]; omega
        have k26 : (op == 26) = false := by rw [beq_eq_false_iff_ne]; omega
        have ka : (Tr.arity op == 0) = false := by rw [beq_eq_false_iff_ne]; intro h; have := arity0 h; omega
        have HV : Hid (stOk j ⟨op, a, b, at_⟩ = false) := by show _ = _; unfold stOk; dsimp only; rw [if_neg (by omega), if_neg (by omega)]; rw [decide_eq_false_iff_not]; omega
        clear h1 QA QB
        go_wp2_with (go_at_call 39; refine (arity_any _ _).mono ?_; rintro e w' ⟨rfl, rfl⟩)
        go_ret
        exact ⟨by rw [stAll_false HX.out HV.out]; rfl, Chg.trans HC.out C1.out (fun _ _ h => h)⟩
      ·
        have k15 : (op == 15) = false := by rw [beq_eq_false_iff_ne]; omega
        have k20 : (op == 20) = false := by rw [beq_eq_false_iff_ne]; omega
        have k24 : (op == 24) = false := by rw [beq_eq_false_iff_ne]; omega
        have k16 : (op == 16) = false := by rw [beq_eq_false_iff_ne]; omega
        have k26 : (op == 26) = false := by rw [beq_eq_false_iff_ne]; omega
        have ka : (Tr.arity op == 0) = true := by rw [beq_iff_eq]; unfold Tr.arity; rw [if_pos h1]
        have HV : Hid (stOk j ⟨op, a, b, at_⟩ = true) := by show _ = _; unfold stOk; dsimp only; rw [if_neg (by omega), if_neg (by omega)]; rw [decide_eq_true_iff]; exact h1
        clear h1 QA QB
        go_wp2_with (go_at_call 39; refine (arity_any _ _).mono ?_; rintro e w' ⟨rfl, rfl⟩)
        go_roundw
        case rel => exact ⟨j + 1, by omega, by go_num, up_next HUP.out HX.out HV.out, Chg.trans HC.out C1.out (fun _ _ h => h)⟩
        case measure => (simp [intOf] <;> omega)
      ·
        have k15 : (op == 15) = false := by rw [beq_eq_false_iff_ne]; omega
        have k20 : (op == 20) = false := by rw [beq_eq_false_iff_ne]; omega
        have k24 : (op == 24) = false := by rw [beq_eq_false_iff_ne]; omega
        have k16 : (op == 16) = false := by rw [beq_eq_false_iff_ne]; omega
        have k26 : (op == 26) = false := by rw [beq_eq_false_iff_ne]; omega
        have ka : (Tr.arity op == 0) = false := by rw [beq_eq_false_iff_ne]; intro h; have := arity0 h; omega
        have HV : Hid (stOk j ⟨op, a, b, at_⟩ = false) := by show _ = _; unfold stOk; dsimp only; rw [if_neg (by omega), if_neg (by omega)]; rw [decide_eq_false_iff_not]; omega
        clear h1 QA QB
        go_wp2_with (go_at_call 39; refine (arity_any _ _).mono ?_; rintro e w' ⟨rfl, rfl⟩)
        go_ret
        exact ⟨by rw [stAll_false HX.out HV.out]; rfl, Chg.trans HC.out C1.out (fun _ _ h => h)⟩
      ·
        obtain ⟨p1, hp1⟩ : ∃ p1, p1 = decide (0 ≤ a ∧ a < (j : Int)) := ⟨_, rfl⟩
        have HV : Hid (stOk j ⟨15, a, b, at_⟩ = p1) := by show _ = _; unfold stOk; dsimp only; rw [if_pos (by omega), hp1]
        rw [← hp1] at QA
        clear hp1 QB
        cases p1 with
        | false =>
          go_wp2_with (go_at_call 65; refine QA.out.mono ?_; rintro e w' ⟨rfl, rfl⟩)
          go_ret
          exact ⟨by rw [stAll_false HX.out HV.out]; rfl, Chg.trans HC.out C1.out (fun _ _ h => h)⟩
        | true =>
          go_wp2_with (go_at_call 65; refine QA.out.mono ?_; rintro e w' ⟨rfl, rfl⟩)
          go_roundw
          case rel => exact ⟨j + 1, by omega, by go_num, up_next HUP.out HX.out HV.out, Chg.trans HC.out C1.out (fun _ _ h => h)⟩
          case measure => (simp [intOf] <;> omega)
      ·
        obtain ⟨p1, hp1⟩ : ∃ p1, p1 = decide (0 ≤ a ∧ a < (j : Int)) := ⟨_, rfl⟩
        have HV : Hid (stOk j ⟨20, a, b, at_⟩ = p1) := by show _ = _; unfold stOk; dsimp only; rw [if_pos (by omega), hp1]
        rw [← hp1] at QA
        clear hp1 QB
        cases p1 with
        | false =>
          go_wp2_with (go_at_call 65; refine QA.out.mono ?_; rintro e w' ⟨rfl, rfl⟩)
          go_ret
          exact ⟨by rw [stAll_false HX.out HV.out]; rfl, Chg.trans HC.out C1.out (fun _ _ h => h)⟩
        | true =>
          go_wp2_with (go_at_call 65; refine QA.out.mono ?_; rintro e w' ⟨rfl, rfl⟩)
          go_roundw
          case rel => exact ⟨j + 1, by omega, by go_num, up_next HUP.out HX.out HV.out, Chg.trans HC.out C1.out (fun _ _ h => h)⟩
          case measure => (simp [intOf] <;> omega)
      ·
        obtain ⟨p1, hp1⟩ : ∃ p1, p1 = decide (0 ≤ a ∧ a < (j : Int)) := ⟨_, rfl⟩
        have HV : Hid (stOk j ⟨24, a, b, at_⟩ = p1) := by show _ = _; unfold stOk; dsimp only; rw [if_pos (by omega), hp1]
        rw [← hp1] at QA
        clear hp1 QB
        cases p1 with
        | false =>
          go_wp2_with (go_at_call 65; refine QA.out.mono ?_; rintro e w' ⟨rfl, rfl⟩)
          go_ret
          exact ⟨by rw [stAll_false HX.out HV.out]; rfl, Chg.trans HC.out C1.out (fun _ _ h => h)⟩
        | true =>
          go_wp2_with (go_at_call 65; refine QA.out.mono ?_; rintro e w' ⟨rfl, rfl⟩)
          go_roundw
          case rel => exact ⟨j + 1, by omega, by go_num, up_next HUP.out HX.out HV.out, Chg.trans HC.out C1.out (fun _ _ h => h)⟩
          case measure => (simp [intOf] <;> omega)
      ·
        obtain ⟨p1, hp1⟩ : ∃ p1, p1 = decide (0 ≤ a ∧ a < (j : Int)) := ⟨_, rfl⟩
        obtain ⟨p2, hp2⟩ : ∃ p2, p2 = decide (0 ≤ b ∧ b < (j : Int)) := ⟨_, rfl⟩
        have HV : Hid (stOk j ⟨16, a, b, at_⟩ = (p1 && p2)) := by show _ = _; unfold stOk; dsimp only; rw [if_neg (by omega), if_pos (by omega), hp1, hp2]
        rw [← hp1] at QA
        rw [← hp2] at QB
        clear hp1 hp2
        cases p1 with
        | false =>
          go_wp2_with (go_at_call 65; refine QA.out.mono ?_; rintro e w' ⟨rfl, rfl⟩)
          go_ret
          exact ⟨by rw [stAll_false HX.out HV.out]; rfl, Chg.trans HC.out C1.out (fun _ _ h => h)⟩
        | true =>
          cases p2 with
          | false =>
            go_wp2_with (first | (go_at_call_of 65 (Value.int IntKind.i64 a); refine QA.out.mono ?_; rintro e w' ⟨rfl, rfl⟩) | (go_at_call_of 65 (Value.int IntKind.i64 b); refine QB.out.mono ?_; rintro e w' ⟨rfl, rfl⟩))
            go_ret
            exact ⟨by rw [stAll_false HX.out HV.out]; rfl, Chg.trans HC.out C1.out (fun _ _ h => h)⟩
          | true =>
            go_wp2_with (first | (go_at_call_of 65 (Value.int IntKind.i64 a); refine QA.out.mono ?_; rintro e w' ⟨rfl, rfl⟩) | (go_at_call_of 65 (Value.int IntKind.i64 b); refine QB.out.mono ?_; rintro e w' ⟨rfl, rfl⟩))
            go_roundw
            case rel => exact ⟨j + 1, by omega, by go_num, up_next HUP.out HX.out HV.out, Chg.trans HC.out C1.out (fun _ _ h => h)⟩
            case measure => (simp [intOf] <;> omega)
      ·
        obtain ⟨p1, hp1⟩ : ∃ p1, p1 = decide (0 ≤ a ∧ a < (j : Int)) := ⟨_, rfl⟩
        obtain ⟨p2, hp2⟩ : ∃ p2, p2 = decide (0 ≤ b ∧ b < (j : Int)) := ⟨_, rfl⟩
        have HV : Hid (stOk j ⟨26, a, b, at_⟩ = (p1 && p2)) := by show _ = _; unfold stOk; dsimp only; rw [if_neg (by omega), if_pos (by omega), hp1, hp2]
        rw [← hp1] at QA
        rw [← hp2] at QB
        clear hp1 hp2
        cases p1 with
        | false =>
          go_wp2_with (go_at_call 65; refine QA.out.mono ?_; rintro e w' ⟨rfl, rfl⟩)
          go_ret
          exact ⟨by rw [stAll_false HX.out HV.out]; rfl, Chg.trans HC.out C1.out (fun _ _ h => h)⟩
        | true =>
          cases p2 with
          | false =>
            go_wp2_with (first | (go_at_call_of 65 (Value.int IntKind.i64 a); refine QA.out.mono ?_; rintro e w' ⟨rfl, rfl⟩) | (go_at_call_of 65 (Value.int IntKind.i64 b); refine QB.out.mono ?_; rintro e w' ⟨rfl, rfl⟩))
            go_ret
            exact ⟨by rw [stAll_false HX.out HV.out]; rfl, Chg.trans HC.out C1.out (fun _ _ h => h)⟩
          | true =>
            go_wp2_with (first | (go_at_call_of 65 (Value.int IntKind.i64 a); refine QA.out.mono ?_; rintro e w' ⟨rfl, rfl⟩) | (go_at_call_of 65 (Value.int IntKind.i64 b); refine QB.out.mono ?_; rintro e w' ⟨rfl, rfl⟩))
            go_roundw
            case rel => exact ⟨j + 1, by omega, by go_num, up_next HUP.out HX.out HV.out, Chg.trans HC.out C1.out (fun _ _ h => h)⟩
            case measure => (simp [intOf] <;> omega)
    · obtain rfl : j = L.length := by omega
      go_wp2
      go_ret
      exact ⟨by rw [stAll_true HUP.out]; rfl, HC.out⟩
set_option maxRecDepth 100000 in
set_option maxHeartbeats 16000000 in
theorem rnCheck_any (w : World) (A : Option Addr) (c : Nat) (L : List No.Stp) (hl : L.length ≤ maxLen) (hr : Rd w w.heap.size A (L.flatMap stpC)) :
    Calls Try.prog 48 #[.slice A L.length c] w fun e w' => e = .returned (.bool (stAll L)) ∧ Chg (fun _ => False) w w' := by
  have HR := Lib.hid hr
  unfold maxLen at hl
  clear hr
  go_enter Try.func48, Try.ntmps48
  go_wp2
  go_loopw [3] (fun i wr => ∃ j : Nat, j ≤ L.length ∧ i = .int .i64 j ∧ Hid (∀ i, i < j → okAt L i = true) ∧ Hid (Chg (fun _ => False) w wr)) (fun i _ => L.length - (intOf i).toNat)
  case atStart => exact ⟨0, Nat.zero_le _, rfl, fun i hi => absurd hi (Nat.not_lt_zero _), Chg.refl _ _⟩
  case round =>
    obtain ⟨j, hj, rfl, HUP, HC⟩ := hrel
    by_cases hlt : j < L.length
    · obtain ⟨s, hs⟩ : ∃ s, L[j]? = some s := ⟨_, List.getElem?_eq_getElem hlt⟩
      obtain ⟨xb, o, hA, hxb, c0, c1, c2, c3, c4, c5, c6, c7, c8, c9⟩ := stp_row (HR.out.chg HC.out (Nat.le_refl _) (fun _ h => h.elim)) hs
      subst hA
      have HX := Lib.hid hs
      clear hs
      obtain ⟨op, a, b, at_⟩ := s
      dsimp only at c0 c1 c2 c3 c4 c5 c6 c7 c8 c9
      go_upto_region 5 with fail
      obtain ⟨w1, hw1⟩ : ∃ w1, w1 = wr.alloc (.cells #[.int .i64 op, .int .i64 a, .int .i64 b, .int .i64 at_.op, .int .i64 at_.la, .int .i64 at_.lnum, .int .i64 at_.ra, .int .i64 at_.rnum, .int .i64 at_.n, .int .i64 at_.user] 79) := ⟨_, rfl⟩
      obtain ⟨sb, hsb⟩ : ∃ sb, sb = wr.heap.size := ⟨_, rfl⟩
      have S1 : Blk w1 sb 79 (stpA ⟨op, a, b, at_⟩) := by rw [hw1, hsb]; exact Blk.new _ _ _
      have C0 : Hid (Chg (fun _ => False) wr w1) := by rw [hw1]; exact (Chg.refl _ _).alloc _
      rw [← hw1, ← hsb]
      have x0 : w1.cell? ⟨sb, 0, none⟩ = some (.int .i64 op) := by rw [S1.cell]; rfl
      have x1 : w1.cell? ⟨sb, 1, none⟩ = some (.int .i64 a) := by rw [S1.cell]; rfl
      have x2 : w1.cell? ⟨sb, 2, none⟩ = some (.int .i64 b) := by rw [S1.cell]; rfl
      clear hw1 hsb S1 c0 c1 c2 c3 c4 c5 c6 c7 c8 c9
      go_cut [5, 6] (fun x y wc => x = .bool (decide (0 ≤ a ∧ a < (j : Int))) ∧ y = .bool (decide (0 ≤ b ∧ b < (j : Int))) ∧ ∃ nq, wc = w1.drewN nq)
      case first =>
        rcases (by omega : (0 ≤ a ∧ a < (j : Int)) ∨ (0 ≤ a ∧ ¬ a < (j : Int)) ∨ (¬ 0 ≤ a)) with ha | ha | ha
        ·
          rcases (by omega : (0 ≤ b ∧ b < (j : Int)) ∨ (0 ≤ b ∧ ¬ b < (j : Int)) ∨ (¬ 0 ≤ b)) with hb | hb | hb
          ·
            have e1 : decide (0 ≤ a) = true := by rw [decide_eq_true_iff]; omega
            have e2 : decide (a < (j : Int)) = true := by rw [decide_eq_true_iff]; omega
            have Ha : Hid (decide (0 ≤ a ∧ a < (j : Int)) = true) := by show _ = _; rw [decide_eq_true_iff]; omega
            have e3 : decide (0 ≤ b) = true := by rw [decide_eq_true_iff]; omega
            have e4 : decide (b < (j : Int)) = true := by rw [decide_eq_true_iff]; omega
            have Hb : Hid (decide (0 ≤ b ∧ b < (j : Int)) = true) := by show _ = _; rw [decide_eq_true_iff]; omega
            clear ha hb
            go_quiet (fail)
            go_wp2_with fail
            go_meet
            exact ⟨by rw [Ha.out], by rw [Hb.out], _, rfl⟩
          ·
            have e1 : decide (0 ≤ a) = true := by rw [decide_eq_true_iff]; omega
            have e2 : decide (a < (j : Int)) = true := by rw [decide_eq_true_iff]; omega
            have Ha : Hid (decide (0 ≤ a ∧ a < (j : Int)) = true) := by show _ = _; rw [decide_eq_true_iff]; omega
            have e3 : decide (0 ≤ b) = true := by rw [decide_eq_true_iff]; omega
            have e4 : decide (b < (j : Int)) = false := by rw [decide_eq_false_iff_not]; omega
            have Hb : Hid (decide (0 ≤ b ∧ b < (j : Int)) = false) := by show _ = _; rw [decide_eq_false_iff_not]; omega
            clear ha hb
            go_quiet (fail)
            go_wp2_with fail
            go_meet
            exact ⟨by rw [Ha.out], by rw [Hb.out], _, rfl⟩
          ·
            have e1 : decide (0 ≤ a) = true := by rw [decide_eq_true_iff]; omega
            have e2 : decide (a < (j : Int)) = true := by rw [decide_eq_true_iff]; omega
            have Ha : Hid (decide (0 ≤ a ∧ a < (j : Int)) = true) := by show _ = _; rw [decide_eq_true_iff]; omega
            have e3 : decide (0 ≤ b) = false := by rw [decide_eq_false_iff_not]; omega
            have Hb : Hid (decide (0 ≤ b ∧ b < (j : Int)) = false) := by show _ = _; rw [decide_eq_false_iff_not]; omega
            clear ha hb
            go_quiet (fail)
            go_wp2_with fail
            go_meet
            exact ⟨by rw [Ha.out], by rw [Hb.out], _, rfl⟩
        ·
          rcases (by omega : (0 ≤ b ∧ b < (j : Int)) ∨ (0 ≤ b ∧ ¬ b < (j : Int)) ∨ (¬ 0 ≤ b)) with hb | hb | hb
          ·
            have e1 : decide (0 ≤ a) = true := by rw [decide_eq_true_iff]; omega
            have e2 : decide (a < (j : Int)) = false := by rw [decide_eq_false_iff_not]; omega
            have Ha : Hid (decide (0 ≤ a ∧ a < (j : Int)) = false) := by show _ = _; rw [decide_eq_false_iff_not]; omega
            have e3 : decide (0 ≤ b) = true := by rw [decide_eq_true_iff]; omega
            have e4 : decide (b < (j : Int)) = true := by rw [decide_eq_true_iff]; omega
            have Hb : Hid (decide (0 ≤ b ∧ b < (j : Int)) = true) := by show _ = _; rw [decide_eq_true_iff]; omega
            clear ha hb
            go_quiet (fail)
            go_wp2_with fail
            go_meet
            exact ⟨by rw [Ha.out], by rw [Hb.out], _, rfl⟩
          ·
            have e1 : decide (0 ≤ a) = true := by rw [decide_eq_true_iff]; omega
            have e2 : decide (a < (j : Int)) = false := by rw [decide_eq_false_iff_not]; omega
            have Ha : Hid (decide (0 ≤ a ∧ a < (j : Int)) = false) := by show _ = _; rw [decide_eq_false_iff_not]; omega
            have e3 : decide (0 ≤ b) = true := by rw [decide_eq_true_iff]; omega
            have e4 : decide (b < (j : Int)) = false := by rw [decide_eq_false_iff_not]; omega
            have Hb : Hid (decide (0 ≤ b ∧ b < (j : Int)) = false) := by show _ = _; rw [decide_eq_false_iff_not]; omega
            clear ha hb
            go_quiet (fail)
            go_wp2_with fail
            go_meet
            exact ⟨by rw [Ha.out], by rw [Hb.out], _, rfl⟩
          ·
            have e1 : decide (0 ≤ a) = true := by rw [decide_eq_true_iff]; omega
            have e2 : decide (a < (j : Int)) = false := by rw [decide_eq_false_iff_not]; omega
            have Ha : Hid (decide (0 ≤ a ∧ a < (j : Int)) = false) := by show _ = _; rw [decide_eq_false_iff_not]; omega
            have e3 : decide (0 ≤ b) = false := by rw [decide_eq_false_iff_not]; omega
            have Hb : Hid (decide (0 ≤ b ∧ b < (j : Int)) = false) := by show _ = _; rw [decide_eq_false_iff_not]; omega
            clear ha hb
            go_quiet (fail)
            go_wp2_with fail
            go_meet
            exact ⟨by rw [Ha.out], by rw [Hb.out], _, rfl⟩
        ·
          rcases (by omega : (0 ≤ b ∧ b < (j : Int)) ∨ (0 ≤ b ∧ ¬ b < (j : Int)) ∨ (¬ 0 ≤ b)) with hb | hb | hb
          ·
            have e1 : decide (0 ≤ a) = false := by rw [decide_eq_false_iff_not]; omega
            have Ha : Hid (decide (0 ≤ a ∧ a < (j : Int)) = false) := by show _ = _; rw [decide_eq_false_iff_not]; omega
            have e2 : decide (0 ≤ b) = true := by rw [decide_eq_true_iff]; omega
            have e3 : decide (b < (j : Int)) = true := by rw [decide_eq_true_iff]; omega
            have Hb : Hid (decide (0 ≤ b ∧ b < (j : Int)) = true) := by show _ = _; rw [decide_eq_true_iff]; omega
            clear ha hb
            go_quiet (fail)
            go_wp2_with fail
            go_meet
            exact ⟨by rw [Ha.out], by rw [Hb.out], _, rfl⟩
          ·
            have e1 : decide (0 ≤ a) = false := by rw [decide_eq_false_iff_not]; omega
            have Ha : Hid (decide (0 ≤ a ∧ a < (j : Int)) = false) := by show _ = _; rw [decide_eq_false_iff_not]; omega
            have e2 : decide (0 ≤ b) = true := by rw [decide_eq_true_iff]; omega
            have e3 : decide (b < (j : Int)) = false := by rw [decide_eq_false_iff_not]; omega
            have Hb : Hid (decide (0 ≤ b ∧ b < (j : Int)) = false) := by show _ = _; rw [decide_eq_false_iff_not]; omega
            clear ha hb
            go_quiet (fail)
            go_wp2_with fail
            go_meet
            exact ⟨by rw [Ha.out], by rw [Hb.out], _, rfl⟩
          ·
            have e1 : decide (0 ≤ a) = false := by rw [decide_eq_false_iff_not]; omega
            have Ha : Hid (decide (0 ≤ a ∧ a < (j : Int)) = false) := by show _ = _; rw [decide_eq_false_iff_not]; omega
            have e2 : decide (0 ≤ b) = false := by rw [decide_eq_false_iff_not]; omega
            have Hb : Hid (decide (0 ≤ b ∧ b < (j : Int)) = false) := by show _ = _; rw [decide_eq_false_iff_not]; omega
            clear ha hb
            go_quiet (fail)
            go_wp2_with fail
            go_meet
            exact ⟨by rw [Ha.out], by rw [Hb.out], _, rfl⟩
      case rest =>
        obtain ⟨rfl, rfl, nq, rfl⟩ := hcut
        have C1 : Hid (Chg (fun _ => False) wr (w1.drewN nq)) := C0.out.drewN nq
        rcases (by omega : op < 1 ∨ (1 ≤ op ∧ op ≤ 14) ∨ (14 < op ∧ op ≠ 15 ∧ op ≠ 20 ∧ op ≠ 24 ∧ op ≠ 16 ∧ op ≠ 26) ∨ op = 15 ∨ op = 20 ∨ op = 24 ∨ op = 16 ∨ op = 26) with h1 | h1 | h1 | rfl | rfl | rfl | rfl | rfl
        ·
          have k15 : (op == 15) = false := by rw [beq_eq_false_iff_ne]; omega
          have k20 : (op == 20) = false := by rw [beq_eq_false_iff_ne]; omega
          have k24 : (op == 24) = false := by rw [beq_eq_false_iff_ne]; omega
          have k16 : (op == 16) = false := by rw [beq_eq_false_iff_ne]; omega
          have k26 : (op == 26) = false := by rw [beq_eq_false_iff_ne]; omega
          have d1 : decide (1 ≤ op) = false := by rw [decide_eq_false_iff_not]; omega
          have HV : Hid (stOk j ⟨op, a, b, at_⟩ = false) := by show _ = _; unfold stOk; dsimp only; rw [if_neg (by omega), if_neg (by omega)]; rw [decide_eq_false_iff_not]; omega
          clear h1
          go_wp2
          go_ret
          exact ⟨by rw [stAll_false HX.out HV.out]; rfl, Chg.trans HC.out C1.out (fun _ _ h => h)⟩
        ·
          have k15 : (op == 15) = false := by rw [beq_eq_false_iff_ne]; omega
          have k20 : (op == 20) = false := by rw [beq_eq_false_iff_ne]; omega
          have k24 : (op == 24) = false := by rw [beq_eq_false_iff_ne]; omega
          have k16 : (op == 16) = false := by rw [beq_eq_false_iff_ne]; omega
          have k26 : (op == 26) = false := by rw [beq_eq_false_iff_ne]; omega
          have d1 : decide (1 ≤ op) = true := by rw [decide_eq_true_iff]; omega
          have d2 : decide (op ≤ 14) = true := by rw [decide_eq_true_iff]; omega
          have HV : Hid (stOk j ⟨op, a, b, at_⟩ = true) := by show _ = _; unfold stOk; dsimp only; rw [if_neg (by omega), if_neg (by omega)]; rw [decide_eq_true_iff]; exact h1
          clear h1
          go_wp2
          go_roundw
          case rel => exact ⟨j + 1, by omega, by go_num, up_next HUP.out HX.out HV.out, Chg.trans HC.out C1.out (fun _ _ h => h)⟩
          case measure => (simp [intOf] <;> omega)
        ·
          have k15 : (op == 15) = false := by rw [beq_eq_false_iff_ne]; omega
          have k20 : (op == 20) = false := by rw [beq_eq_false_iff_ne]; omega
          have k24 : (op == 24) = false := by rw [beq_eq_false_iff_ne]; omega
          have k16 : (op == 16) = false := by rw [beq_eq_false_iff_ne]; omega
          have k26 : (op == 26) = false := by rw [beq_eq_false_iff_ne]; omega
          have d1 : decide (1 ≤ op) = true := by rw [decide_eq_true_iff]; omega
          have d2 : decide (op ≤ 14) = false := by rw [decide_eq_false_iff_not]; omega
          have HV : Hid (stOk j ⟨op, a, b, at_⟩ = false) := by show _ = _; unfold stOk; dsimp only; rw [if_neg (by omega), if_neg (by omega)]; rw [decide_eq_false_iff_not]; omega
          clear h1
          go_wp2
          go_ret
          exact ⟨by rw [stAll_false HX.out HV.out]; rfl, Chg.trans HC.out C1.out (fun _ _ h => h)⟩
        ·
          obtain ⟨p1, hp1⟩ : ∃ p1, p1 = decide (0 ≤ a ∧ a < (j : Int)) := ⟨_, rfl⟩
          have HV : Hid (stOk j ⟨15, a, b, at_⟩ = p1) := by show _ = _; unfold stOk; dsimp only; rw [if_pos (by omega), hp1]
          rw [← hp1]
          clear hp1
          cases p1 with
          | false =>
            go_wp2
            go_ret
            exact ⟨by rw [stAll_false HX.out HV.out]; rfl, Chg.trans HC.out C1.out (fun _ _ h => h)⟩
          | true =>
            go_wp2
            go_roundw
            case rel => exact ⟨j + 1, by omega, by go_num, up_next HUP.out HX.out HV.out, Chg.trans HC.out C1.out (fun _ _ h => h)⟩
            case measure => (simp [intOf] <;> omega)
        ·
          obtain ⟨p1, hp1⟩ : ∃ p1, p1 = decide (0 ≤ a ∧ a < (j : Int)) := ⟨_, rfl⟩
          have HV : Hid (stOk j ⟨20, a, b, at_⟩ = p1) := by show _ = _; unfold stOk; dsimp only; rw [if_pos (by omega), hp1]
          rw [← hp1]
          clear hp1
          cases p1 with
          | false =>
            go_wp2
            go_ret
            exact ⟨by rw [stAll_false HX.out HV.out]; rfl, Chg.trans HC.out C1.out (fun _ _ h => h)⟩
          | true =>
            go_wp2
            go_roundw
            case rel => exact ⟨j + 1, by omega, by go_num, up_next HUP.out HX.out HV.out, Chg.trans HC.out C1.out (fun _ _ h => h)⟩
            case measure => (simp [intOf] <;> omega)
        ·
          obtain ⟨p1, hp1⟩ : ∃ p1, p1 = decide (0 ≤ a ∧ a < (j : Int)) := ⟨_, rfl⟩
          have HV : Hid (stOk j ⟨24, a, b, at_⟩ = p1) := by show _ = _; unfold stOk; dsimp only; rw [if_pos (by omega), hp1]
          rw [← hp1]
          clear hp1
          cases p1 with
          | false =>
            go_wp2
            go_ret
            exact ⟨by rw [stAll_false HX.out HV.out]; rfl, Chg.trans HC.out C1.out (fun _ _ h => h)⟩
          | true =>
            go_wp2
            go_roundw
            case rel => exact ⟨j + 1, by omega, by go_num, up_next HUP.out HX.out HV.out, Chg.trans HC.out C1.out (fun _ _ h => h)⟩
            case measure => (simp [intOf] <;> omega)
        ·
          obtain ⟨p1, hp1⟩ : ∃ p1, p1 = decide (0 ≤ a ∧ a < (j : Int)) := ⟨_, rfl⟩
          obtain ⟨p2, hp2⟩ : ∃ p2, p2 = decide (0 ≤ b ∧ b < (j : Int)) := ⟨_, rfl⟩
          have HV : Hid (stOk j ⟨16, a, b, at_⟩ = (p1 && p2)) := by show _ = _; unfold stOk; dsimp only; rw [if_neg (by omega), if_pos (by omega), hp1, hp2]
          rw [← hp1, ← hp2]
          clear hp1 hp2
          cases p1 with
          | false =>
            go_wp2
            go_ret
            exact ⟨by rw [stAll_false HX.out HV.out]; rfl, Chg.trans HC.out C1.out (fun _ _ h => h)⟩
          | true =>
            cases p2 with
            | false =>
              go_wp2
              go_ret
              exact ⟨by rw [stAll_false HX.out HV.out]; rfl, Chg.trans HC.out C1.out (fun _ _ h => h)⟩
            | true =>
              go_wp2
              go_roundw
              case rel => exact ⟨j + 1, by omega, by go_num, up_next HUP.out HX.out HV.out, Chg.trans HC.out C1.out (fun _ _ h => h)⟩
              case measure => (simp [intOf] <;> omega)
        ·
          obtain ⟨p1, hp1⟩ : ∃ p1, p1 = decide (0 ≤ a ∧ a < (j : Int)) := ⟨_, rfl⟩
          obtain ⟨p2, hp2⟩ : ∃ p2, p2 = decide (0 ≤ b ∧ b < (j : Int)) := ⟨_, rfl⟩
          have HV : Hid (stOk j ⟨26, a, b, at_⟩ = (p1 && p2)) := by show _ = _; unfold stOk; dsimp only; rw [if_neg (by omega), if_pos (by omega), hp1, hp2]
          rw [← hp1, ← hp2]
          clear hp1 hp2
          cases p1 with
          | false =>
            go_wp2
            go_ret
            exact ⟨by rw [stAll_false HX.out HV.out]; rfl, Chg.trans HC.out C1.out (fun _ _ h => h)⟩
          | true =>
            cases p2 with
            | false =>
              go_wp2
              go_ret
              exact ⟨by rw [stAll_false HX.out HV.out]; rfl, Chg.trans HC.out C1.out (fun _ _ h => h)⟩
            | true =>
              go_wp2
              go_roundw
              case rel => exact ⟨j + 1, by omega, by go_num, up_next HUP.out HX.out HV.out, Chg.trans HC.out C1.out (fun _ _ h => h)⟩
              case measure => (simp [intOf] <;> omega)
    · obtain rfl : j = L.length := by omega
      go_wp2
      go_ret
      exact ⟨by rw [stAll_true HUP.out]; rfl, HC.out⟩
end Go.Proofs.Ytpppgnphblbbcaa
