/- The walks of part, Check, Deep, Start, Kids. -/
import Derived.Test.YtpppgnphblbbcaaTrFind
import Derived.Test.YtpppgnphblbbcaaTrRef2
namespace Go.Proofs.Ytpppgnphblbbcaa
open Go.RowKit

theorem keep_cell {S : Nat → Prop} {w1 w2 : World} (h : Chg S w1 w2) (hS : ∀ k, ¬ S k) {p : Addr} {u : Value} (hu : w1.cell? p = some u) : w2.cell? p = some u := by
  rw [h.cell (World.block_lt_of_cell? w1 p hu) (hS _)]; exact hu
section
variable (w : World) (A : Option Addr) (c : Nat) (f : List Nm.Item) (hl : f.length ≤ maxLen) (hr : Rd w w.heap.size A (cellsI f))
include hl hr
theorem built_ok (t : Tr.T) (ht : Tr.run (sg f) f.length = some [t]) (h0 : Tr.check (sg f) f.length = 0) : Calls Try.prog 59 #[.slice A f.length c] w fun e w' => e = .returned (.tuple #[.iface (typT t) (.agg (cellT t)), .int .i64 0]) ∧ Chg (fun _ => False) w w' := by
  refine (built_any w A c f hl hr).mono ?_
  rintro e w' ⟨h | h, hc⟩
  · obtain ⟨t', h1, _, h2⟩ := h
    rw [ht] at h1
    injection h1 with h1
    injection h1 with h1
    subst h1
    exact ⟨by rw [h2, valT_eq], hc⟩
  · exact absurd h0 h.1
theorem built_bad (h0 : Tr.check (sg f) f.length ≠ 0) : Calls Try.prog 59 #[.slice A f.length c] w fun e w' => e = .returned (.tuple #[.nilIface, .int .i64 (Tr.check (sg f) f.length)]) ∧ Chg (fun _ => False) w w' := by
  refine (built_any w A c f hl hr).mono ?_
  rintro e w' ⟨h | h, hc⟩
  · obtain ⟨t', _, h1, h2⟩ := h
    exact absurd h1 h0
  · exact ⟨h.2, hc⟩
set_option maxRecDepth 100000 in
set_option maxHeartbeats 2000000 in
theorem check_any : Calls Try.prog 30 #[.slice A f.length c] w fun e w' => e = .returned (.int .i64 (Tr.check (sg f) f.length)) ∧ Chg (fun _ => False) w w' := by
  by_cases h0 : Tr.check (sg f) f.length = 0
  · obtain ⟨t, ht⟩ := (Tr.form_iff _).1 (Tr.check_zero.1 h0).2.2
    have hb := Lib.hid (built_ok w A c f hl hr t ht h0)
    rw [h0]
    clear h0 ht hr
    go_enter Try.func30, Try.ntmps30
    go_wp2_with (go_at_call 59; refine (hb.out).mono ?_; rintro e w' ⟨rfl, h⟩; have HC := Lib.hid h; clear h)
    go_ret
    exact ⟨rfl, HC.out⟩
  · have hb := Lib.hid (built_bad w A c f hl hr h0)
    clear h0 hr
    go_enter Try.func30, Try.ntmps30
    go_wp2_with (go_at_call 59; refine (hb.out).mono ?_; rintro e w' ⟨rfl, h⟩; have HC := Lib.hid h; clear h)
    go_ret
    exact ⟨rfl, HC.out⟩
set_option maxRecDepth 100000 in
set_option maxHeartbeats 2000000 in
theorem deepF_any : Calls Try.prog 32 #[.slice A f.length c] w fun e w' => (∃ v, e = .returned (.int .i64 v) ∧ DeepR f v) ∧ Chg (fun _ => False) w w' := by
  by_cases h0 : Tr.check (sg f) f.length = 0
  · obtain ⟨hz, h64, hbg⟩ := Tr.check_zero.1 h0
    obtain ⟨t, ht⟩ := (Tr.form_iff _).1 hbg
    have hb := Lib.hid (built_ok w A c f hl hr t ht h0)
    have hD : Hid (DeepR f (t.deep : Nat)) := .inl ⟨t, ht, h0, rfl⟩
    have hd := Lib.hid (deep_any t (by have := wf_deep (Tr.form_wf ht); omega))
    have hm := method_deep t
    have hf := call_deep t
    clear h0 ht hr hbg
    go_enter Try.func32, Try.ntmps32
    go_wp2_with (first | (go_at_call 59; refine (hb.out).mono ?_; rintro e w' ⟨rfl, h⟩; have HC := Lib.hid h; clear h) | (refine (hd.out _).mono ?_; rintro e w' ⟨rfl, h⟩; have HD := Lib.hid h; clear h))
    go_ret
    exact ⟨⟨_, rfl, hD.out⟩, Chg.trans HC.out HD.out (fun _ _ h => h)⟩
  · have hb := Lib.hid (built_bad w A c f hl hr h0)
    have hD : Hid (DeepR f 0) := .inr ⟨h0, rfl⟩
    obtain ⟨v, hv⟩ : ∃ v, v = Tr.check (sg f) f.length := ⟨_, rfl⟩
    rw [← hv] at hb h0
    clear hv
    have hvz : (v == 0) = false := by rw [beq_eq_false_iff_ne]; omega
    have hvz2 : (v != 0) = true := by simpa using h0
    clear h0 hr
    go_enter Try.func32, Try.ntmps32
    go_wp2_with (go_at_call 59; refine (hb.out).mono ?_; rintro e w' ⟨rfl, h⟩; have HC := Lib.hid h; clear h)
    go_ret
    exact ⟨⟨_, rfl, hD.out⟩, HC.out⟩
set_option maxRecDepth 100000 in
set_option maxHeartbeats 2000000 in
/-- The part of a formula that an item of it ends. -/
theorem part_ok (k : Nat) (hk : k < f.length) (h0 : Tr.check (sg f) f.length = 0) : ∃ s b, Tr.WF (sg f) s b (k + 1) ∧ Calls Try.prog 61 #[.slice A f.length c, .int .i64 k] w fun e w' => e = .returned (.tuple #[.iface (typT s) (.agg (cellT s)), .bool true]) ∧ Chg (fun _ => False) w w' := by
  obtain ⟨hz, h64, hbg⟩ := Tr.check_zero.1 h0
  obtain ⟨t, ht⟩ := (Tr.form_iff _).1 hbg
  obtain ⟨s, b, hs, _, hw⟩ := (Tr.form_wf ht).find k (Nat.zero_le _) hk
  refine ⟨s, b, hw, ?_⟩
  have hb := Lib.hid (built_ok w A c f hl hr t ht h0)
  have hfd := find_any k t
  unfold FindC at hfd
  rw [hs] at hfd
  replace hfd := Lib.hid hfd
  have hk1 : decide ((k : Int) < 0) = false := by rw [decide_eq_false_iff_not]; omega
  have hk2 : decide ((f.length : Int) ≤ (k : Int)) = false := by rw [decide_eq_false_iff_not]; omega
  clear h0 ht hr hbg hs hw
  go_enter Try.func61, Try.ntmps61
  go_wp2_with (first | (go_at_call 59; refine (hb.out).mono ?_; rintro e w' ⟨rfl, h⟩; have HC := Lib.hid h; clear h) | (go_at_call 80; refine (hfd.out _).mono ?_; rintro e w' ⟨hF, h⟩; obtain rfl : _ = _ := hF; have HD := Lib.hid h; clear h; rw [valT_eq]))
  go_ret2
  exact ⟨rfl, Chg.trans HC.out HD.out (fun _ _ h => h)⟩
set_option maxRecDepth 100000 in
set_option maxHeartbeats 2000000 in
theorem part_none (k : Int) (h : ¬ (Tr.check (sg f) f.length = 0 ∧ 0 ≤ k ∧ k < f.length)) : Calls Try.prog 61 #[.slice A f.length c, .int .i64 k] w fun e w' => e = .returned (.tuple #[.nilIface, .bool false]) ∧ Chg (fun _ => False) w w' := by
  by_cases h0 : Tr.check (sg f) f.length = 0
  · obtain ⟨hz, h64, hbg⟩ := Tr.check_zero.1 h0
    obtain ⟨t, ht⟩ := (Tr.form_iff _).1 hbg
    have hb := Lib.hid (built_ok w A c f hl hr t ht h0)
    by_cases hk : k < 0
    · have hk1 : decide (k < 0) = true := by rw [decide_eq_true_iff]; omega
      clear h0 ht hr hbg h hk
      go_enter Try.func61, Try.ntmps61
      go_wp2_with (go_at_call 59; refine (hb.out).mono ?_; rintro e w' ⟨rfl, h⟩; have HC := Lib.hid h; clear h)
      go_ret2
      exact ⟨rfl, HC.out⟩
    · have hk1 : decide (k < 0) = false := by rw [decide_eq_false_iff_not]; omega
      have hk2 : decide ((f.length : Int) ≤ k) = true := by rw [decide_eq_true_iff]; omega
      clear h0 ht hr hbg h hk
      go_enter Try.func61, Try.ntmps61
      go_wp2_with (go_at_call 59; refine (hb.out).mono ?_; rintro e w' ⟨rfl, h⟩; have HC := Lib.hid h; clear h)
      go_ret2
      exact ⟨rfl, HC.out⟩
  · have hb := Lib.hid (built_bad w A c f hl hr h0)
    obtain ⟨v, hv⟩ : ∃ v, v = Tr.check (sg f) f.length := ⟨_, rfl⟩
    rw [← hv] at hb h0
    clear hv
    have hvz : (v == 0) = false := by rw [beq_eq_false_iff_ne]; omega
    have hvz2 : (v != 0) = true := by simpa using h0
    clear h0 hr h
    go_enter Try.func61, Try.ntmps61
    go_wp2_with (go_at_call 59; refine (hb.out).mono ?_; rintro e w' ⟨rfl, h⟩; have HC := Lib.hid h; clear h)
    go_ret2
    exact ⟨rfl, HC.out⟩
set_option maxRecDepth 100000 in
set_option maxHeartbeats 2000000 in
theorem start_ok (k : Nat) (hk : k < f.length) (h0 : Tr.check (sg f) f.length = 0) : Calls Try.prog 35 #[.slice A f.length c, .int .i64 k] w fun e w' => e = .returned (.int .i64 (Tr.beg (sg f) 1 (k + 1))) ∧ Chg (fun _ => False) w w' := by
  obtain ⟨s, b, hw, hp⟩ := part_ok w A c f hl hr k hk h0
  rw [hw.beg1, ← hw.first_]
  replace hp := Lib.hid hp
  have hf := first_any s
  rw [valT_eq] at hf
  replace hf := Lib.hid hf
  clear hr hw h0
  go_enter Try.func35, Try.ntmps35
  go_wp2_with (first | (go_at_call 61; refine (hp.out).mono ?_; rintro e w' ⟨rfl, h⟩; have HC := Lib.hid h; clear h) | (go_at_call 62; refine (hf.out _).mono ?_; rintro e w' ⟨rfl, h⟩; have HD := Lib.hid h; clear h))
  go_ret
  exact ⟨rfl, Chg.trans HC.out HD.out (fun _ _ h => h)⟩
set_option maxRecDepth 100000 in
set_option maxHeartbeats 2000000 in
theorem start_none (k : Int) (h : ¬ (Tr.check (sg f) f.length = 0 ∧ 0 ≤ k ∧ k < f.length)) : Calls Try.prog 35 #[.slice A f.length c, .int .i64 k] w fun e w' => e = .returned (.int .i64 (-1)) ∧ Chg (fun _ => False) w w' := by
  have hp := Lib.hid (part_none w A c f hl hr k h)
  clear hr h
  go_enter Try.func35, Try.ntmps35
  go_wp2_with (go_at_call 61; refine (hp.out).mono ?_; rintro e w' ⟨rfl, h⟩; have HC := Lib.hid h; clear h)
  go_ret
  exact ⟨rfl, HC.out⟩
set_option maxRecDepth 100000 in
set_option maxHeartbeats 2000000 in
theorem kids_none (k : Int) (h : ¬ (Tr.check (sg f) f.length = 0 ∧ 0 ≤ k ∧ k < f.length)) : Calls Try.prog 36 #[.slice A f.length c, .int .i64 k] w fun e w' => KidsR w [] e w' := by
  have hp := Lib.hid (part_none w A c f hl hr k h)
  clear hr h
  go_enter Try.func36, Try.ntmps36
  go_wp2_with (go_at_call 61; refine (hp.out).mono ?_; rintro e w' ⟨rfl, h⟩; have HC := Lib.hid h; clear h)
  go_ret
  exact ⟨none, 0, rfl, by simp, fun h => by simp [intsV] at h, HC.out, fun ad h => by cases h⟩
set_option maxRecDepth 100000 in
set_option maxHeartbeats 4000000 in
theorem kids_ok (k : Nat) (hk : k < f.length) (h0 : Tr.check (sg f) f.length = 0) : Calls Try.prog 36 #[.slice A f.length c, .int .i64 k] w fun e w' => KidsR w (Tr.kidsB (sg f) k) e w' := by
  obtain ⟨s, b, hw, hp⟩ := part_ok w A c f hl hr k hk h0
  rw [hw.kids]
  replace hp := Lib.hid hp
  clear hr hw h0
  have q1 := as_leaf1
  have q2 := as_leaf2
  have q3 := as_one1
  have q4 := as_two1
  have q5 := as_two2
  cases s with
  | leaf a =>
    rw [show (typT (.leaf a)) = 150 from rfl, show cellT (.leaf a) = #[.int .i64 a] from rfl] at hp
    go_enter Try.func36, Try.ntmps36
    go_wp2_with (go_at_call 61; refine (hp.out).mono ?_; rintro e w' ⟨rfl, h⟩; have HC := Lib.hid h; clear h)
    go_ret
    exact ⟨none, 0, rfl, Nat.zero_le _, fun h => absurd h (Nat.lt_irrefl 0), HC.out, fun ad h => by cases h⟩
  | one a x =>
    rw [show (typT (.one a x)) = 124 from rfl, cell_one] at hp
    have hm := method_end x
    have hf := call_end x
    have he := Lib.hid (end_any x)
    go_enter Try.func36, Try.ntmps36
    go_wp2_with (first | (go_at_call 61; refine (hp.out).mono ?_; rintro e w' ⟨rfl, h⟩; have HC := Lib.hid h; clear h) | (refine (he.out _).mono ?_; rintro e w' ⟨rfl, h⟩; have HD := Lib.hid h; clear h))
    go_ret
    exact kids_one _ _ (Chg.trans (HC.out.alloc _) HD.out (fun _ _ h => h))
  | two a x y =>
    rw [show (typT (.two a x y)) = 126 from rfl, cell_two] at hp
    have hm := method_end x
    have hf := call_end x
    have he := Lib.hid (end_any x)
    have hm2 := method_end y
    have hf2 := call_end y
    have he2 := Lib.hid (end_any y)
    go_enter Try.func36, Try.ntmps36
    go_wp2_with (go_at_call 61; refine (hp.out).mono ?_; rintro e w' ⟨rfl, h⟩; have HC := Lib.hid h; clear h)
    have c0 : (w'.alloc (.cells #[.int .i64 a, .iface (typT x) (.agg (cellT x)), .iface (typT y) (.agg (cellT y))] 126)).cell? ⟨w'.heap.size, 1, none⟩ = some (.iface (typT x) (.agg (cellT x))) := by rw [(Blk.new w' 126 _).cell]; rfl
    have c1 : (w'.alloc (.cells #[.int .i64 a, .iface (typT x) (.agg (cellT x)), .iface (typT y) (.agg (cellT y))] 126)).cell? ⟨w'.heap.size, 2, none⟩ = some (.iface (typT y) (.agg (cellT y))) := by rw [(Blk.new w' 126 _).cell]; rfl
    have HW := Lib.hid (HC.out.alloc (.cells #[.int .i64 a, .iface (typT x) (.agg (cellT x)), .iface (typT y) (.agg (cellT y))] 126))
    obtain ⟨w2, hw2⟩ : ∃ w2, w2 = w'.alloc (.cells #[.int .i64 a, .iface (typT x) (.agg (cellT x)), .iface (typT y) (.agg (cellT y))] 126) := ⟨_, rfl⟩
    rw [← hw2] at c0 c1 HW ⊢
    clear hw2 q1 q2 q3 q4 q5 HC
    go_region_with (first | (refine (he.out _).mono ?_; rintro e w' ⟨rfl, h⟩; have HD := Lib.hid h; clear h; try (have d0 := keep_cell HD.out (fun _ h => h) (by exact c0); have d1 := keep_cell HD.out (fun _ h => h) (by exact c1))) | (refine (he2.out _).mono ?_; rintro e w' ⟨rfl, h⟩; have HE := Lib.hid h; clear h; try (have d0 := keep_cell HE.out (fun _ h => h) (by exact c0); have d1 := keep_cell HE.out (fun _ h => h) (by exact c1))))
    all_goals (go_wp2_with fail)
    all_goals go_ret
    all_goals first | exact kids_two _ _ _ (Chg.trans (Chg.trans HW.out.drew HD.out (fun _ _ h => h)) HE.out (fun _ _ h => h)) | exact kids_two _ _ _ (Chg.trans (Chg.trans HW.out.drew HE.out (fun _ _ h => h)) HD.out (fun _ _ h => h))
end
end Go.Proofs.Ytpppgnphblbbcaa
