/- The walks of the maker's signs. -/
import Derived.Test.YtpppgnphblbbcaaNoMake
namespace Go.Proofs.Ytpppgnphblbbcaa
open Go.RowKit

set_option maxRecDepth 100000 in
theorem mnot_any (w : World) (B b mb : Nat) (lv rv : Value) (L : List No.Stp) (row : List Int) (a : Int) (h : Mk w B b mb lv rv L row) (hL : L.length ≤ 900000) (ha : 0 ≤ a ∧ a < L.length) :
    Calls Try.prog 81 #[.pointer (some ⟨b, 0, none⟩), .int .i64 a] w fun e w' => Made B b mb rv row (No.pNot L a) w e w' := by
  have HM := Lib.hid (make_any w B b mb lv rv L row (No.sgn 15 a 0) h (.inr (.inl ⟨rfl, ha⟩)) (No.okS_sgn (by omega) (by omega) ha (by omega)) (by omega))
  unfold stpA at HM
  simp only [No.sgn, No.zI] at HM
  clear h
  go_enter Try.func81, Try.ntmps81
  go_wp2_with (go_at_call 88; refine Calls.mono HM.out ?_; rintro e w' ⟨rfl, hk, hc⟩; replace hk := Lib.hid hk; replace hc := Lib.hid hc)
  go_ret
  exact ⟨rfl, hk.out, hc.out⟩
set_option maxRecDepth 100000 in
theorem mnext_any (w : World) (B b mb : Nat) (lv rv : Value) (L : List No.Stp) (row : List Int) (a : Int) (h : Mk w B b mb lv rv L row) (hL : L.length ≤ 900000) (ha : 0 ≤ a ∧ a < L.length) :
    Calls Try.prog 82 #[.pointer (some ⟨b, 0, none⟩), .int .i64 a] w fun e w' => Made B b mb rv row (No.pNext L a) w e w' := by
  have HM := Lib.hid (make_any w B b mb lv rv L row (No.sgn 20 a 0) h (.inr (.inr (.inl ⟨.inl rfl, ha⟩))) (No.okS_sgn (by omega) (by omega) ha (by omega)) (by omega))
  unfold stpA at HM
  simp only [No.sgn, No.zI] at HM
  clear h
  go_enter Try.func82, Try.ntmps82
  go_wp2_with (go_at_call 88; refine Calls.mono HM.out ?_; rintro e w' ⟨rfl, hk, hc⟩; replace hk := Lib.hid hk; replace hc := Lib.hid hc)
  go_ret
  exact ⟨rfl, hk.out, hc.out⟩
set_option maxRecDepth 100000 in
theorem mever_any (w : World) (B b mb : Nat) (lv rv : Value) (L : List No.Stp) (row : List Int) (a : Int) (h : Mk w B b mb lv rv L row) (hL : L.length ≤ 900000) (ha : 0 ≤ a ∧ a < L.length) :
    Calls Try.prog 83 #[.pointer (some ⟨b, 0, none⟩), .int .i64 a] w fun e w' => Made B b mb rv row (No.pEver L a) w e w' := by
  have HM := Lib.hid (make_any w B b mb lv rv L row (No.sgn 24 a 0) h (.inr (.inr (.inl ⟨.inr rfl, ha⟩))) (No.okS_sgn (by omega) (by omega) ha (by omega)) (by omega))
  unfold stpA at HM
  simp only [No.sgn, No.zI] at HM
  clear h
  go_enter Try.func83, Try.ntmps83
  go_wp2_with (go_at_call 88; refine Calls.mono HM.out ?_; rintro e w' ⟨rfl, hk, hc⟩; replace hk := Lib.hid hk; replace hc := Lib.hid hc)
  go_ret
  exact ⟨rfl, hk.out, hc.out⟩
set_option maxRecDepth 100000 in
theorem muntil_any (w : World) (B b mb : Nat) (lv rv : Value) (L : List No.Stp) (row : List Int) (a : Int) (b_ : Int) (h : Mk w B b mb lv rv L row) (hL : L.length ≤ 900000) (ha : 0 ≤ a ∧ a < L.length) (hb_ : 0 ≤ b_ ∧ b_ < L.length) :
    Calls Try.prog 84 #[.pointer (some ⟨b, 0, none⟩), .int .i64 a, .int .i64 b_] w fun e w' => Made B b mb rv row (No.pUntil L a b_) w e w' := by
  have HM := Lib.hid (make_any w B b mb lv rv L row (No.sgn 26 a b_) h (.inr (.inr (.inr ⟨.inr rfl, ha.1, ha.2, hb_⟩))) (No.okS_sgn (by omega) (by omega) ha (by omega)) (by omega))
  unfold stpA at HM
  simp only [No.sgn, No.zI] at HM
  clear h
  go_enter Try.func84, Try.ntmps84
  go_wp2_with (go_at_call 88; refine Calls.mono HM.out ?_; rintro e w' ⟨rfl, hk, hc⟩; replace hk := Lib.hid hk; replace hc := Lib.hid hc)
  go_ret
  exact ⟨rfl, hk.out, hc.out⟩
set_option maxRecDepth 100000 in
theorem mand_any (w : World) (B b mb : Nat) (lv rv : Value) (L : List No.Stp) (row : List Int) (a : Int) (b_ : Int) (h : Mk w B b mb lv rv L row) (hL : L.length ≤ 900000) (ha : 0 ≤ a ∧ a < L.length) (hb_ : 0 ≤ b_ ∧ b_ < L.length) :
    Calls Try.prog 86 #[.pointer (some ⟨b, 0, none⟩), .int .i64 a, .int .i64 b_] w fun e w' => Made B b mb rv row (No.pAnd L a b_) w e w' := by
  have HM := Lib.hid (make_any w B b mb lv rv L row (No.sgn 16 a b_) h (.inr (.inr (.inr ⟨.inl rfl, ha.1, ha.2, hb_⟩))) (No.okS_sgn (by omega) (by omega) ha (by omega)) (by omega))
  unfold stpA at HM
  simp only [No.sgn, No.zI] at HM
  clear h
  go_enter Try.func86, Try.ntmps86
  go_wp2_with (go_at_call 88; refine Calls.mono HM.out ?_; rintro e w' ⟨rfl, hk, hc⟩; replace hk := Lib.hid hk; replace hc := Lib.hid hc)
  go_ret
  exact ⟨rfl, hk.out, hc.out⟩
def instA7 (x : Nm.Inst) : Array Value := #[.int .i64 x.op, .int .i64 x.la, .int .i64 x.lnum, .int .i64 x.ra, .int .i64 x.rnum, .int .i64 x.n, .int .i64 x.user]
theorem inst_cells {w : World} {g : Nat} {x : Nm.Inst} (h : Blk w g 77 (instA7 x)) : w.cell? ⟨g, 0, none⟩ = some (.int .i64 x.op) ∧ w.cell? ⟨g, 1, none⟩ = some (.int .i64 x.la) ∧ w.cell? ⟨g, 2, none⟩ = some (.int .i64 x.lnum) ∧ w.cell? ⟨g, 3, none⟩ = some (.int .i64 x.ra) ∧ w.cell? ⟨g, 4, none⟩ = some (.int .i64 x.rnum) ∧ w.cell? ⟨g, 5, none⟩ = some (.int .i64 x.n) ∧ w.cell? ⟨g, 6, none⟩ = some (.int .i64 x.user) := by
  refine ⟨?_, ?_, ?_, ?_, ?_, ?_, ?_⟩ <;> rw [h.cell] <;> rfl
set_option maxRecDepth 100000 in
theorem matom_any (w : World) (B b mb : Nat) (lv rv : Value) (L : List No.Stp) (row : List Int) (x : Nm.Inst) (h : Mk w B b mb lv rv L row) (hL : L.length ≤ 900000) (hx : 1 ≤ x.op ∧ x.op ≤ 14) (hi : No.okI x) :
    Calls Try.prog 69 #[.pointer (some ⟨b, 0, none⟩), .agg (instA7 x)] w fun e w' => Made B b mb rv row (No.put L (No.atomS x)) w e w' := by
  have hs : No.okS (No.atomS x) := ⟨hi.1, by unfold No.inR; simp only [No.atomS]; omega, by unfold No.inR; simp only [No.atomS]; omega, hi⟩
  have HM := Lib.hid (fun (w1 : World) (hc : Chg (fun _ => False) w w1) => make_any w1 B b mb lv rv L row (No.atomS x) (h.quiet hc) (.inl hx) hs (by omega))
  have C1 := Lib.hid ((Chg.refl (fun _ => False) w).alloc (.cells (instA7 x) 77))
  unfold stpA at HM
  simp only [No.atomS] at HM
  unfold instA7 at C1 ⊢
  clear h hs
  go_enter Try.func69, Try.ntmps69
  go_wp2_with (go_at_call 88; refine Calls.mono (HM.out _ C1.out) ?_; rintro e w' ⟨rfl, hk, hc⟩; replace hk := Lib.hid hk; replace hc := Lib.hid hc)
  go_ret
  exact ⟨rfl, hk.out, Chg.trans (C1.out.mono (fun _ _ h => h.elim)) hc.out (fun _ _ h => h)⟩
set_option maxRecDepth 100000 in
theorem mtrue_any (w : World) (B b mb : Nat) (lv rv : Value) (L : List No.Stp) (row : List Int) (h : Mk w B b mb lv rv L row) (hL : L.length ≤ 900000) :
    Calls Try.prog 85 #[.pointer (some ⟨b, 0, none⟩)] w fun e w' => Made B b mb rv row (No.pTrue L) w e w' := by
  have HM := Lib.hid (matom_any w B b mb lv rv L row No.tru h hL ⟨by decide, by decide⟩ (by refine ⟨?_, ?_, ?_, ?_, ?_, ?_, ?_⟩ <;> (unfold No.inR; simp only [No.tru]; omega)))
  unfold instA7 at HM
  simp only [No.tru] at HM
  clear h
  go_enter Try.func85, Try.ntmps85
  go_wp2_with (go_at_call 69; refine Calls.mono HM.out ?_; rintro e w' ⟨rfl, hk, hc⟩; replace hk := Lib.hid hk; replace hc := Lib.hid hc)
  go_ret
  exact ⟨rfl, hk.out, hc.out⟩
set_option maxRecDepth 100000 in
set_option maxHeartbeats 4000000 in
theorem mall_any (w : World) (B b mb : Nat) (lv rv : Value) (L : List No.Stp) (row : List Int) (a : Int) (b_ : Int) (h : Mk w B b mb lv rv L row) (hL : L.length ≤ 800000) (ha : 0 ≤ a ∧ a < L.length) (hb_ : 0 ≤ b_ ∧ b_ < L.length) :
    Calls Try.prog 87 #[.pointer (some ⟨b, 0, none⟩), .int .i64 a, .int .i64 b_] w fun e w' => Made B b mb rv row (No.all L a b_) w e w' := by
  have H0 := Lib.hid h
  clear h
  go_enter Try.func87, Try.ntmps87
  have g1 : No.Gr L (No.pNot L b_) 1 := No.not_gr H0.out.inv (by omega) (by omega)
  have K1 := Lib.hid (mnot_any w B b mb lv rv L row b_ H0.out (by omega) (by omega))
  obtain ⟨⟨L1, n1⟩, hr1⟩ : ∃ r, r = No.pNot L b_ := ⟨_, rfl⟩
  rw [← hr1] at g1 K1
  unfold Made at K1
  dsimp only at K1
  have q1 : L.length ≤ L1.length ∧ L1.length ≤ L.length + 1 ∧ 0 ≤ n1 ∧ n1 < L1.length := ⟨g1.len, g1.few, g1.lo, g1.hi⟩
  replace hr1 := Lib.hid hr1
  clear g1
  go_wp2_with fail
  refine Calls.mono K1.out ?_
  rintro e w1 ⟨rfl, ⟨lv1, h1⟩, c1⟩
  have H1 : Hid (Mk w1 B b mb lv1 rv L1 row) := h1
  have C1 := Lib.hid c1
  clear h1 c1 K1
  have g2 : No.Gr L1 (No.pNot L1 a) 1 := No.not_gr H1.out.inv (by omega) (by omega)
  have K2 := Lib.hid (mnot_any w1 B b mb lv1 rv L1 row a H1.out (by omega) (by omega))
  obtain ⟨⟨L2, n2⟩, hr2⟩ : ∃ r, r = No.pNot L1 a := ⟨_, rfl⟩
  rw [← hr2] at g2 K2
  unfold Made at K2
  dsimp only at K2
  have q2 : L1.length ≤ L2.length ∧ L2.length ≤ L1.length + 1 ∧ 0 ≤ n2 ∧ n2 < L2.length := ⟨g2.len, g2.few, g2.lo, g2.hi⟩
  replace hr2 := Lib.hid hr2
  clear g2
  go_wp2_with fail
  refine Calls.mono K2.out ?_
  rintro e w2 ⟨rfl, ⟨lv2, h2⟩, c2⟩
  have H2 : Hid (Mk w2 B b mb lv2 rv L2 row) := h2
  have C2 := Lib.hid (Chg.trans C1.out c2 (fun _ _ h => h))
  clear h2 c2 K2
  have g3 : No.Gr L2 (No.pAnd L2 n2 n1) 1 := No.and_gr H2.out.inv (by omega) (by omega) (by omega)
  have K3 := Lib.hid (mand_any w2 B b mb lv2 rv L2 row n2 n1 H2.out (by omega) (by omega) (by omega))
  obtain ⟨⟨L3, n3⟩, hr3⟩ : ∃ r, r = No.pAnd L2 n2 n1 := ⟨_, rfl⟩
  rw [← hr3] at g3 K3
  unfold Made at K3
  dsimp only at K3
  have q3 : L2.length ≤ L3.length ∧ L3.length ≤ L2.length + 1 ∧ 0 ≤ n3 ∧ n3 < L3.length := ⟨g3.len, g3.few, g3.lo, g3.hi⟩
  replace hr3 := Lib.hid hr3
  clear g3
  go_wp2_with fail
  refine Calls.mono K3.out ?_
  rintro e w3 ⟨rfl, ⟨lv3, h3⟩, c3⟩
  have H3 : Hid (Mk w3 B b mb lv3 rv L3 row) := h3
  have C3 := Lib.hid (Chg.trans C2.out c3 (fun _ _ h => h))
  clear h3 c3 K3
  have g4 : No.Gr L3 (No.pUntil L3 n1 n3) 1 := No.until_gr H3.out.inv (by omega) (by omega) (by omega)
  have K4 := Lib.hid (muntil_any w3 B b mb lv3 rv L3 row n1 n3 H3.out (by omega) (by omega) (by omega))
  obtain ⟨⟨L4, n4⟩, hr4⟩ : ∃ r, r = No.pUntil L3 n1 n3 := ⟨_, rfl⟩
  rw [← hr4] at g4 K4
  unfold Made at K4
  dsimp only at K4
  have q4 : L3.length ≤ L4.length ∧ L4.length ≤ L3.length + 1 ∧ 0 ≤ n4 ∧ n4 < L4.length := ⟨g4.len, g4.few, g4.lo, g4.hi⟩
  replace hr4 := Lib.hid hr4
  clear g4
  go_wp2_with fail
  refine Calls.mono K4.out ?_
  rintro e w4 ⟨rfl, ⟨lv4, h4⟩, c4⟩
  have H4 : Hid (Mk w4 B b mb lv4 rv L4 row) := h4
  have C4 := Lib.hid (Chg.trans C3.out c4 (fun _ _ h => h))
  clear h4 c4 K4
  have g5 : No.Gr L4 (No.pNot L4 n4) 1 := No.not_gr H4.out.inv (by omega) (by omega)
  have K5 := Lib.hid (mnot_any w4 B b mb lv4 rv L4 row n4 H4.out (by omega) (by omega))
  obtain ⟨⟨L5, n5⟩, hr5⟩ : ∃ r, r = No.pNot L4 n4 := ⟨_, rfl⟩
  rw [← hr5] at g5 K5
  unfold Made at K5
  dsimp only at K5
  have q5 : L4.length ≤ L5.length ∧ L5.length ≤ L4.length + 1 ∧ 0 ≤ n5 ∧ n5 < L5.length := ⟨g5.len, g5.few, g5.lo, g5.hi⟩
  replace hr5 := Lib.hid hr5
  clear g5
  go_wp2_with fail
  refine Calls.mono K5.out ?_
  rintro e w5 ⟨rfl, ⟨lv5, h5⟩, c5⟩
  have H5 : Hid (Mk w5 B b mb lv5 rv L5 row) := h5
  have C5 := Lib.hid (Chg.trans C4.out c5 (fun _ _ h => h))
  clear h5 c5 K5
  have g6 : No.Gr L5 (No.pEver L5 n1) 1 := No.ever_gr H5.out.inv (by omega) (by omega)
  have K6 := Lib.hid (mever_any w5 B b mb lv5 rv L5 row n1 H5.out (by omega) (by omega))
  obtain ⟨⟨L6, n6⟩, hr6⟩ : ∃ r, r = No.pEver L5 n1 := ⟨_, rfl⟩
  rw [← hr6] at g6 K6
  unfold Made at K6
  dsimp only at K6
  have q6 : L5.length ≤ L6.length ∧ L6.length ≤ L5.length + 1 ∧ 0 ≤ n6 ∧ n6 < L6.length := ⟨g6.len, g6.few, g6.lo, g6.hi⟩
  replace hr6 := Lib.hid hr6
  clear g6
  go_wp2_with fail
  refine Calls.mono K6.out ?_
  rintro e w6 ⟨rfl, ⟨lv6, h6⟩, c6⟩
  have H6 : Hid (Mk w6 B b mb lv6 rv L6 row) := h6
  have C6 := Lib.hid (Chg.trans C5.out c6 (fun _ _ h => h))
  clear h6 c6 K6
  have g7 : No.Gr L6 (No.pNot L6 n6) 1 := No.not_gr H6.out.inv (by omega) (by omega)
  have K7 := Lib.hid (mnot_any w6 B b mb lv6 rv L6 row n6 H6.out (by omega) (by omega))
  obtain ⟨⟨L7, n7⟩, hr7⟩ : ∃ r, r = No.pNot L6 n6 := ⟨_, rfl⟩
  rw [← hr7] at g7 K7
  unfold Made at K7
  dsimp only at K7
  have q7 : L6.length ≤ L7.length ∧ L7.length ≤ L6.length + 1 ∧ 0 ≤ n7 ∧ n7 < L7.length := ⟨g7.len, g7.few, g7.lo, g7.hi⟩
  replace hr7 := Lib.hid hr7
  clear g7
  go_wp2_with fail
  refine Calls.mono K7.out ?_
  rintro e w7 ⟨rfl, ⟨lv7, h7⟩, c7⟩
  have H7 : Hid (Mk w7 B b mb lv7 rv L7 row) := h7
  have C7 := Lib.hid (Chg.trans C6.out c7 (fun _ _ h => h))
  clear h7 c7 K7
  have g8 : No.Gr L7 (No.pAnd L7 n5 n7) 1 := No.and_gr H7.out.inv (by omega) (by omega) (by omega)
  have K8 := Lib.hid (mand_any w7 B b mb lv7 rv L7 row n5 n7 H7.out (by omega) (by omega) (by omega))
  obtain ⟨⟨L8, n8⟩, hr8⟩ : ∃ r, r = No.pAnd L7 n5 n7 := ⟨_, rfl⟩
  rw [← hr8] at g8 K8
  unfold Made at K8
  dsimp only at K8
  have q8 : L7.length ≤ L8.length ∧ L8.length ≤ L7.length + 1 ∧ 0 ≤ n8 ∧ n8 < L8.length := ⟨g8.len, g8.few, g8.lo, g8.hi⟩
  replace hr8 := Lib.hid hr8
  clear g8
  go_wp2_with fail
  refine Calls.mono K8.out ?_
  rintro e w8 ⟨rfl, ⟨lv8, h8⟩, c8⟩
  have H8 : Hid (Mk w8 B b mb lv8 rv L8 row) := h8
  have C8 := Lib.hid (Chg.trans C7.out c8 (fun _ _ h => h))
  clear h8 c8 K8
  go_wp2
  go_ret
  have HV : No.all L a b_ = (L8, n8) := by
    unfold No.all
    unfold No.all7 No.all6 No.all5 No.all4 No.all3 No.all2 No.all1
    simp only [← hr1.out, ← hr2.out, ← hr3.out, ← hr4.out, ← hr5.out, ← hr6.out, ← hr7.out, ← hr8.out]
  rw [HV]
  exact ⟨rfl, ⟨_, H8.out⟩, C8.out⟩
set_option maxRecDepth 100000 in
set_option maxHeartbeats 4000000 in
theorem mone_any (w : World) (B b mb : Nat) (lv rv : Value) (L : List No.Stp) (row : List Int) (op : Int) (a : Int) (h : Mk w B b mb lv rv L row) (hL : L.length ≤ 800000) (ha : 0 ≤ a ∧ a < L.length) :
    Calls Try.prog 66 #[.pointer (some ⟨b, 0, none⟩), .int .i64 op, .int .i64 a] w fun e w' => Made B b mb rv row (No.one L op a) w e w' := by
  have H0 := Lib.hid h
  clear h
  by_cases o19 : op = 19
  · subst o19
    go_enter Try.func66, Try.ntmps66
    have g1 : No.Gr L (No.pNot L a) 1 := No.not_gr H0.out.inv (by omega) (by omega)
    have K1 := Lib.hid (mnot_any w B b mb lv rv L row a H0.out (by omega) (by omega))
    obtain ⟨⟨L1, n1⟩, hr1⟩ : ∃ r, r = No.pNot L a := ⟨_, rfl⟩
    rw [← hr1] at g1 K1
    unfold Made at K1
    dsimp only at K1
    have q1 : L.length ≤ L1.length ∧ L1.length ≤ L.length + 1 ∧ 0 ≤ n1 ∧ n1 < L1.length := ⟨g1.len, g1.few, g1.lo, g1.hi⟩
    replace hr1 := Lib.hid hr1
    clear g1
    go_wp2_with fail
    refine Calls.mono K1.out ?_
    rintro e w1 ⟨rfl, ⟨lv1, h1⟩, c1⟩
    have H1 : Hid (Mk w1 B b mb lv1 rv L1 row) := h1
    have C1 := Lib.hid c1
    clear h1 c1 K1
    have g2 : No.Gr L1 (No.pNext L1 n1) 1 := No.next_gr H1.out.inv (by omega) (by omega)
    have K2 := Lib.hid (mnext_any w1 B b mb lv1 rv L1 row n1 H1.out (by omega) (by omega))
    obtain ⟨⟨L2, n2⟩, hr2⟩ : ∃ r, r = No.pNext L1 n1 := ⟨_, rfl⟩
    rw [← hr2] at g2 K2
    unfold Made at K2
    dsimp only at K2
    have q2 : L1.length ≤ L2.length ∧ L2.length ≤ L1.length + 1 ∧ 0 ≤ n2 ∧ n2 < L2.length := ⟨g2.len, g2.few, g2.lo, g2.hi⟩
    replace hr2 := Lib.hid hr2
    clear g2
    go_wp2_with fail
    refine Calls.mono K2.out ?_
    rintro e w2 ⟨rfl, ⟨lv2, h2⟩, c2⟩
    have H2 : Hid (Mk w2 B b mb lv2 rv L2 row) := h2
    have C2 := Lib.hid (Chg.trans C1.out c2 (fun _ _ h => h))
    clear h2 c2 K2
    have g3 : No.Gr L2 (No.pNot L2 n2) 1 := No.not_gr H2.out.inv (by omega) (by omega)
    have K3 := Lib.hid (mnot_any w2 B b mb lv2 rv L2 row n2 H2.out (by omega) (by omega))
    obtain ⟨⟨L3, n3⟩, hr3⟩ : ∃ r, r = No.pNot L2 n2 := ⟨_, rfl⟩
    rw [← hr3] at g3 K3
    unfold Made at K3
    dsimp only at K3
    have q3 : L2.length ≤ L3.length ∧ L3.length ≤ L2.length + 1 ∧ 0 ≤ n3 ∧ n3 < L3.length := ⟨g3.len, g3.few, g3.lo, g3.hi⟩
    replace hr3 := Lib.hid hr3
    clear g3
    go_wp2_with fail
    refine Calls.mono K3.out ?_
    rintro e w3 ⟨rfl, ⟨lv3, h3⟩, c3⟩
    have H3 : Hid (Mk w3 B b mb lv3 rv L3 row) := h3
    have C3 := Lib.hid (Chg.trans C2.out c3 (fun _ _ h => h))
    clear h3 c3 K3
    go_wp2
    go_ret
    have HV : No.one L 19 a = (L3, n3) := by
      unfold No.one
      rw [if_pos rfl]
      simp only [← hr1.out, ← hr2.out, ← hr3.out]
    rw [HV]
    exact ⟨rfl, ⟨_, H3.out⟩, C3.out⟩
  by_cases o20 : op = 20
  · subst o20
    go_enter Try.func66, Try.ntmps66
    have g1 : No.Gr L (No.pNext L a) 1 := No.next_gr H0.out.inv (by omega) (by omega)
    have K1 := Lib.hid (mnext_any w B b mb lv rv L row a H0.out (by omega) (by omega))
    obtain ⟨⟨L1, n1⟩, hr1⟩ : ∃ r, r = No.pNext L a := ⟨_, rfl⟩
    rw [← hr1] at g1 K1
    unfold Made at K1
    dsimp only at K1
    have q1 : L.length ≤ L1.length ∧ L1.length ≤ L.length + 1 ∧ 0 ≤ n1 ∧ n1 < L1.length := ⟨g1.len, g1.few, g1.lo, g1.hi⟩
    replace hr1 := Lib.hid hr1
    clear g1
    go_wp2_with fail
    refine Calls.mono K1.out ?_
    rintro e w1 ⟨rfl, ⟨lv1, h1⟩, c1⟩
    have H1 : Hid (Mk w1 B b mb lv1 rv L1 row) := h1
    have C1 := Lib.hid c1
    clear h1 c1 K1
    go_wp2
    go_ret
    have HV : No.one L 20 a = (L1, n1) := by
      unfold No.one
      rw [if_neg (by omega), if_pos rfl]
      simp only [← hr1.out]
    rw [HV]
    exact ⟨rfl, ⟨_, H1.out⟩, C1.out⟩
  by_cases o21 : op = 21
  · subst o21
    go_enter Try.func66, Try.ntmps66
    have g1 : No.Gr L (No.pNot L a) 1 := No.not_gr H0.out.inv (by omega) (by omega)
    have K1 := Lib.hid (mnot_any w B b mb lv rv L row a H0.out (by omega) (by omega))
    obtain ⟨⟨L1, n1⟩, hr1⟩ : ∃ r, r = No.pNot L a := ⟨_, rfl⟩
    rw [← hr1] at g1 K1
    unfold Made at K1
    dsimp only at K1
    have q1 : L.length ≤ L1.length ∧ L1.length ≤ L.length + 1 ∧ 0 ≤ n1 ∧ n1 < L1.length := ⟨g1.len, g1.few, g1.lo, g1.hi⟩
    replace hr1 := Lib.hid hr1
    clear g1
    go_wp2_with fail
    refine Calls.mono K1.out ?_
    rintro e w1 ⟨rfl, ⟨lv1, h1⟩, c1⟩
    have H1 : Hid (Mk w1 B b mb lv1 rv L1 row) := h1
    have C1 := Lib.hid c1
    clear h1 c1 K1
    have g2 : No.Gr L1 (No.pEver L1 n1) 1 := No.ever_gr H1.out.inv (by omega) (by omega)
    have K2 := Lib.hid (mever_any w1 B b mb lv1 rv L1 row n1 H1.out (by omega) (by omega))
    obtain ⟨⟨L2, n2⟩, hr2⟩ : ∃ r, r = No.pEver L1 n1 := ⟨_, rfl⟩
    rw [← hr2] at g2 K2
    unfold Made at K2
    dsimp only at K2
    have q2 : L1.length ≤ L2.length ∧ L2.length ≤ L1.length + 1 ∧ 0 ≤ n2 ∧ n2 < L2.length := ⟨g2.len, g2.few, g2.lo, g2.hi⟩
    replace hr2 := Lib.hid hr2
    clear g2
    go_wp2_with fail
    refine Calls.mono K2.out ?_
    rintro e w2 ⟨rfl, ⟨lv2, h2⟩, c2⟩
    have H2 : Hid (Mk w2 B b mb lv2 rv L2 row) := h2
    have C2 := Lib.hid (Chg.trans C1.out c2 (fun _ _ h => h))
    clear h2 c2 K2
    have g3 : No.Gr L2 (No.pNot L2 n2) 1 := No.not_gr H2.out.inv (by omega) (by omega)
    have K3 := Lib.hid (mnot_any w2 B b mb lv2 rv L2 row n2 H2.out (by omega) (by omega))
    obtain ⟨⟨L3, n3⟩, hr3⟩ : ∃ r, r = No.pNot L2 n2 := ⟨_, rfl⟩
    rw [← hr3] at g3 K3
    unfold Made at K3
    dsimp only at K3
    have q3 : L2.length ≤ L3.length ∧ L3.length ≤ L2.length + 1 ∧ 0 ≤ n3 ∧ n3 < L3.length := ⟨g3.len, g3.few, g3.lo, g3.hi⟩
    replace hr3 := Lib.hid hr3
    clear g3
    go_wp2_with fail
    refine Calls.mono K3.out ?_
    rintro e w3 ⟨rfl, ⟨lv3, h3⟩, c3⟩
    have H3 : Hid (Mk w3 B b mb lv3 rv L3 row) := h3
    have C3 := Lib.hid (Chg.trans C2.out c3 (fun _ _ h => h))
    clear h3 c3 K3
    go_wp2
    go_ret
    have HV : No.one L 21 a = (L3, n3) := by
      unfold No.one
      rw [if_neg (by omega), if_neg (by omega), if_pos rfl]
      simp only [← hr1.out, ← hr2.out, ← hr3.out]
    rw [HV]
    exact ⟨rfl, ⟨_, H3.out⟩, C3.out⟩
  by_cases o22 : op = 22
  · subst o22
    go_enter Try.func66, Try.ntmps66
    have g1 : No.Gr L (No.pTrue L) 1 := No.true_gr H0.out.inv
    have K1 := Lib.hid (mtrue_any w B b mb lv rv L row H0.out (by omega))
    obtain ⟨⟨L1, n1⟩, hr1⟩ : ∃ r, r = No.pTrue L := ⟨_, rfl⟩
    rw [← hr1] at g1 K1
    unfold Made at K1
    dsimp only at K1
    have q1 : L.length ≤ L1.length ∧ L1.length ≤ L.length + 1 ∧ 0 ≤ n1 ∧ n1 < L1.length := ⟨g1.len, g1.few, g1.lo, g1.hi⟩
    replace hr1 := Lib.hid hr1
    clear g1
    go_wp2_with fail
    refine Calls.mono K1.out ?_
    rintro e w1 ⟨rfl, ⟨lv1, h1⟩, c1⟩
    have H1 : Hid (Mk w1 B b mb lv1 rv L1 row) := h1
    have C1 := Lib.hid c1
    clear h1 c1 K1
    have g2 : No.Gr L1 (No.pUntil L1 n1 a) 1 := No.until_gr H1.out.inv (by omega) (by omega) (by omega)
    have K2 := Lib.hid (muntil_any w1 B b mb lv1 rv L1 row n1 a H1.out (by omega) (by omega) (by omega))
    obtain ⟨⟨L2, n2⟩, hr2⟩ : ∃ r, r = No.pUntil L1 n1 a := ⟨_, rfl⟩
    rw [← hr2] at g2 K2
    unfold Made at K2
    dsimp only at K2
    have q2 : L1.length ≤ L2.length ∧ L2.length ≤ L1.length + 1 ∧ 0 ≤ n2 ∧ n2 < L2.length := ⟨g2.len, g2.few, g2.lo, g2.hi⟩
    replace hr2 := Lib.hid hr2
    clear g2
    go_wp2_with fail
    refine Calls.mono K2.out ?_
    rintro e w2 ⟨rfl, ⟨lv2, h2⟩, c2⟩
    have H2 : Hid (Mk w2 B b mb lv2 rv L2 row) := h2
    have C2 := Lib.hid (Chg.trans C1.out c2 (fun _ _ h => h))
    clear h2 c2 K2
    go_wp2
    go_ret
    have HV : No.one L 22 a = (L2, n2) := by
      unfold No.one
      rw [if_neg (by omega), if_neg (by omega), if_neg (by omega), if_pos rfl]
      simp only [← hr1.out, ← hr2.out]
    rw [HV]
    exact ⟨rfl, ⟨_, H2.out⟩, C2.out⟩
  by_cases o23 : op = 23
  · subst o23
    go_enter Try.func66, Try.ntmps66
    have g1 : No.Gr L (No.pNot L a) 1 := No.not_gr H0.out.inv (by omega) (by omega)
    have K1 := Lib.hid (mnot_any w B b mb lv rv L row a H0.out (by omega) (by omega))
    obtain ⟨⟨L1, n1⟩, hr1⟩ : ∃ r, r = No.pNot L a := ⟨_, rfl⟩
    rw [← hr1] at g1 K1
    unfold Made at K1
    dsimp only at K1
    have q1 : L.length ≤ L1.length ∧ L1.length ≤ L.length + 1 ∧ 0 ≤ n1 ∧ n1 < L1.length := ⟨g1.len, g1.few, g1.lo, g1.hi⟩
    replace hr1 := Lib.hid hr1
    clear g1
    go_wp2_with fail
    refine Calls.mono K1.out ?_
    rintro e w1 ⟨rfl, ⟨lv1, h1⟩, c1⟩
    have H1 : Hid (Mk w1 B b mb lv1 rv L1 row) := h1
    have C1 := Lib.hid c1
    clear h1 c1 K1
    have g2 : No.Gr L1 (No.pTrue L1) 1 := No.true_gr H1.out.inv
    have K2 := Lib.hid (mtrue_any w1 B b mb lv1 rv L1 row H1.out (by omega))
    obtain ⟨⟨L2, n2⟩, hr2⟩ : ∃ r, r = No.pTrue L1 := ⟨_, rfl⟩
    rw [← hr2] at g2 K2
    unfold Made at K2
    dsimp only at K2
    have q2 : L1.length ≤ L2.length ∧ L2.length ≤ L1.length + 1 ∧ 0 ≤ n2 ∧ n2 < L2.length := ⟨g2.len, g2.few, g2.lo, g2.hi⟩
    replace hr2 := Lib.hid hr2
    clear g2
    go_wp2_with fail
    refine Calls.mono K2.out ?_
    rintro e w2 ⟨rfl, ⟨lv2, h2⟩, c2⟩
    have H2 : Hid (Mk w2 B b mb lv2 rv L2 row) := h2
    have C2 := Lib.hid (Chg.trans C1.out c2 (fun _ _ h => h))
    clear h2 c2 K2
    have g3 : No.Gr L2 (No.pUntil L2 n2 n1) 1 := No.until_gr H2.out.inv (by omega) (by omega) (by omega)
    have K3 := Lib.hid (muntil_any w2 B b mb lv2 rv L2 row n2 n1 H2.out (by omega) (by omega) (by omega))
    obtain ⟨⟨L3, n3⟩, hr3⟩ : ∃ r, r = No.pUntil L2 n2 n1 := ⟨_, rfl⟩
    rw [← hr3] at g3 K3
    unfold Made at K3
    dsimp only at K3
    have q3 : L2.length ≤ L3.length ∧ L3.length ≤ L2.length + 1 ∧ 0 ≤ n3 ∧ n3 < L3.length := ⟨g3.len, g3.few, g3.lo, g3.hi⟩
    replace hr3 := Lib.hid hr3
    clear g3
    go_wp2_with fail
    refine Calls.mono K3.out ?_
    rintro e w3 ⟨rfl, ⟨lv3, h3⟩, c3⟩
    have H3 : Hid (Mk w3 B b mb lv3 rv L3 row) := h3
    have C3 := Lib.hid (Chg.trans C2.out c3 (fun _ _ h => h))
    clear h3 c3 K3
    have g4 : No.Gr L3 (No.pNot L3 n3) 1 := No.not_gr H3.out.inv (by omega) (by omega)
    have K4 := Lib.hid (mnot_any w3 B b mb lv3 rv L3 row n3 H3.out (by omega) (by omega))
    obtain ⟨⟨L4, n4⟩, hr4⟩ : ∃ r, r = No.pNot L3 n3 := ⟨_, rfl⟩
    rw [← hr4] at g4 K4
    unfold Made at K4
    dsimp only at K4
    have q4 : L3.length ≤ L4.length ∧ L4.length ≤ L3.length + 1 ∧ 0 ≤ n4 ∧ n4 < L4.length := ⟨g4.len, g4.few, g4.lo, g4.hi⟩
    replace hr4 := Lib.hid hr4
    clear g4
    go_wp2_with fail
    refine Calls.mono K4.out ?_
    rintro e w4 ⟨rfl, ⟨lv4, h4⟩, c4⟩
    have H4 : Hid (Mk w4 B b mb lv4 rv L4 row) := h4
    have C4 := Lib.hid (Chg.trans C3.out c4 (fun _ _ h => h))
    clear h4 c4 K4
    go_wp2
    go_ret
    have HV : No.one L 23 a = (L4, n4) := by
      unfold No.one
      rw [if_neg (by omega), if_neg (by omega), if_neg (by omega), if_neg (by omega), if_pos rfl]
      simp only [← hr1.out, ← hr2.out, ← hr3.out, ← hr4.out]
    rw [HV]
    exact ⟨rfl, ⟨_, H4.out⟩, C4.out⟩
  by_cases o24 : op = 24
  · subst o24
    go_enter Try.func66, Try.ntmps66
    have g1 : No.Gr L (No.pEver L a) 1 := No.ever_gr H0.out.inv (by omega) (by omega)
    have K1 := Lib.hid (mever_any w B b mb lv rv L row a H0.out (by omega) (by omega))
    obtain ⟨⟨L1, n1⟩, hr1⟩ : ∃ r, r = No.pEver L a := ⟨_, rfl⟩
    rw [← hr1] at g1 K1
    unfold Made at K1
    dsimp only at K1
    have q1 : L.length ≤ L1.length ∧ L1.length ≤ L.length + 1 ∧ 0 ≤ n1 ∧ n1 < L1.length := ⟨g1.len, g1.few, g1.lo, g1.hi⟩
    replace hr1 := Lib.hid hr1
    clear g1
    go_wp2_with fail
    refine Calls.mono K1.out ?_
    rintro e w1 ⟨rfl, ⟨lv1, h1⟩, c1⟩
    have H1 : Hid (Mk w1 B b mb lv1 rv L1 row) := h1
    have C1 := Lib.hid c1
    clear h1 c1 K1
    go_wp2
    go_ret
    have HV : No.one L 24 a = (L1, n1) := by
      unfold No.one
      rw [if_neg (by omega), if_neg (by omega), if_neg (by omega), if_neg (by omega), if_neg (by omega), if_pos rfl]
      simp only [← hr1.out]
    rw [HV]
    exact ⟨rfl, ⟨_, H1.out⟩, C1.out⟩
  have d19 : (op == 19) = false := by simpa using o19
  have d20 : (op == 20) = false := by simpa using o20
  have d21 : (op == 21) = false := by simpa using o21
  have d22 : (op == 22) = false := by simpa using o22
  have d23 : (op == 23) = false := by simpa using o23
  have d24 : (op == 24) = false := by simpa using o24
  go_enter Try.func66, Try.ntmps66
  have g1 : No.Gr L (No.pNot L a) 1 := No.not_gr H0.out.inv (by omega) (by omega)
  have K1 := Lib.hid (mnot_any w B b mb lv rv L row a H0.out (by omega) (by omega))
  obtain ⟨⟨L1, n1⟩, hr1⟩ : ∃ r, r = No.pNot L a := ⟨_, rfl⟩
  rw [← hr1] at g1 K1
  unfold Made at K1
  dsimp only at K1
  have q1 : L.length ≤ L1.length ∧ L1.length ≤ L.length + 1 ∧ 0 ≤ n1 ∧ n1 < L1.length := ⟨g1.len, g1.few, g1.lo, g1.hi⟩
  replace hr1 := Lib.hid hr1
  clear g1
  go_wp2_with fail
  refine Calls.mono K1.out ?_
  rintro e w1 ⟨rfl, ⟨lv1, h1⟩, c1⟩
  have H1 : Hid (Mk w1 B b mb lv1 rv L1 row) := h1
  have C1 := Lib.hid c1
  clear h1 c1 K1
  go_wp2
  go_ret
  have HV : No.one L op a = (L1, n1) := by
    unfold No.one
    rw [if_neg o19, if_neg o20, if_neg o21, if_neg o22, if_neg o23, if_neg o24]
    simp only [← hr1.out]
  rw [HV]
  exact ⟨rfl, ⟨_, H1.out⟩, C1.out⟩
set_option maxRecDepth 100000 in
set_option maxHeartbeats 4000000 in
theorem mtwo_any (w : World) (B b mb : Nat) (lv rv : Value) (L : List No.Stp) (row : List Int) (op : Int) (a : Int) (b_ : Int) (h : Mk w B b mb lv rv L row) (hL : L.length ≤ 800000) (ha : 0 ≤ a ∧ a < L.length) (hb_ : 0 ≤ b_ ∧ b_ < L.length) :
    Calls Try.prog 68 #[.pointer (some ⟨b, 0, none⟩), .int .i64 op, .int .i64 a, .int .i64 b_] w fun e w' => Made B b mb rv row (No.two L op a b_) w e w' := by
  have H0 := Lib.hid h
  clear h
  by_cases o17 : op = 17
  · subst o17
    go_enter Try.func68, Try.ntmps68
    have g1 : No.Gr L (No.pNot L a) 1 := No.not_gr H0.out.inv (by omega) (by omega)
    have K1 := Lib.hid (mnot_any w B b mb lv rv L row a H0.out (by omega) (by omega))
    obtain ⟨⟨L1, n1⟩, hr1⟩ : ∃ r, r = No.pNot L a := ⟨_, rfl⟩
    rw [← hr1] at g1 K1
    unfold Made at K1
    dsimp only at K1
    have q1 : L.length ≤ L1.length ∧ L1.length ≤ L.length + 1 ∧ 0 ≤ n1 ∧ n1 < L1.length := ⟨g1.len, g1.few, g1.lo, g1.hi⟩
    replace hr1 := Lib.hid hr1
    clear g1
    go_wp2_with fail
    refine Calls.mono K1.out ?_
    rintro e w1 ⟨rfl, ⟨lv1, h1⟩, c1⟩
    have H1 : Hid (Mk w1 B b mb lv1 rv L1 row) := h1
    have C1 := Lib.hid c1
    clear h1 c1 K1
    have g2 : No.Gr L1 (No.pNot L1 b_) 1 := No.not_gr H1.out.inv (by omega) (by omega)
    have K2 := Lib.hid (mnot_any w1 B b mb lv1 rv L1 row b_ H1.out (by omega) (by omega))
    obtain ⟨⟨L2, n2⟩, hr2⟩ : ∃ r, r = No.pNot L1 b_ := ⟨_, rfl⟩
    rw [← hr2] at g2 K2
    unfold Made at K2
    dsimp only at K2
    have q2 : L1.length ≤ L2.length ∧ L2.length ≤ L1.length + 1 ∧ 0 ≤ n2 ∧ n2 < L2.length := ⟨g2.len, g2.few, g2.lo, g2.hi⟩
    replace hr2 := Lib.hid hr2
    clear g2
    go_wp2_with fail
    refine Calls.mono K2.out ?_
    rintro e w2 ⟨rfl, ⟨lv2, h2⟩, c2⟩
    have H2 : Hid (Mk w2 B b mb lv2 rv L2 row) := h2
    have C2 := Lib.hid (Chg.trans C1.out c2 (fun _ _ h => h))
    clear h2 c2 K2
    have g3 : No.Gr L2 (No.pAnd L2 n1 n2) 1 := No.and_gr H2.out.inv (by omega) (by omega) (by omega)
    have K3 := Lib.hid (mand_any w2 B b mb lv2 rv L2 row n1 n2 H2.out (by omega) (by omega) (by omega))
    obtain ⟨⟨L3, n3⟩, hr3⟩ : ∃ r, r = No.pAnd L2 n1 n2 := ⟨_, rfl⟩
    rw [← hr3] at g3 K3
    unfold Made at K3
    dsimp only at K3
    have q3 : L2.length ≤ L3.length ∧ L3.length ≤ L2.length + 1 ∧ 0 ≤ n3 ∧ n3 < L3.length := ⟨g3.len, g3.few, g3.lo, g3.hi⟩
    replace hr3 := Lib.hid hr3
    clear g3
    go_wp2_with fail
    refine Calls.mono K3.out ?_
    rintro e w3 ⟨rfl, ⟨lv3, h3⟩, c3⟩
    have H3 : Hid (Mk w3 B b mb lv3 rv L3 row) := h3
    have C3 := Lib.hid (Chg.trans C2.out c3 (fun _ _ h => h))
    clear h3 c3 K3
    have g4 : No.Gr L3 (No.pNot L3 n3) 1 := No.not_gr H3.out.inv (by omega) (by omega)
    have K4 := Lib.hid (mnot_any w3 B b mb lv3 rv L3 row n3 H3.out (by omega) (by omega))
    obtain ⟨⟨L4, n4⟩, hr4⟩ : ∃ r, r = No.pNot L3 n3 := ⟨_, rfl⟩
    rw [← hr4] at g4 K4
    unfold Made at K4
    dsimp only at K4
    have q4 : L3.length ≤ L4.length ∧ L4.length ≤ L3.length + 1 ∧ 0 ≤ n4 ∧ n4 < L4.length := ⟨g4.len, g4.few, g4.lo, g4.hi⟩
    replace hr4 := Lib.hid hr4
    clear g4
    go_wp2_with fail
    refine Calls.mono K4.out ?_
    rintro e w4 ⟨rfl, ⟨lv4, h4⟩, c4⟩
    have H4 : Hid (Mk w4 B b mb lv4 rv L4 row) := h4
    have C4 := Lib.hid (Chg.trans C3.out c4 (fun _ _ h => h))
    clear h4 c4 K4
    go_wp2
    go_ret
    have HV : No.two L 17 a b_ = (L4, n4) := by
      unfold No.two No.or2 No.or1 No.im2
      rw [if_pos rfl]
      simp only [← hr1.out, ← hr2.out, ← hr3.out, ← hr4.out]
    rw [HV]
    exact ⟨rfl, ⟨_, H4.out⟩, C4.out⟩
  by_cases o18 : op = 18
  · subst o18
    go_enter Try.func68, Try.ntmps68
    have g1 : No.Gr L (No.pNot L b_) 1 := No.not_gr H0.out.inv (by omega) (by omega)
    have K1 := Lib.hid (mnot_any w B b mb lv rv L row b_ H0.out (by omega) (by omega))
    obtain ⟨⟨L1, n1⟩, hr1⟩ : ∃ r, r = No.pNot L b_ := ⟨_, rfl⟩
    rw [← hr1] at g1 K1
    unfold Made at K1
    dsimp only at K1
    have q1 : L.length ≤ L1.length ∧ L1.length ≤ L.length + 1 ∧ 0 ≤ n1 ∧ n1 < L1.length := ⟨g1.len, g1.few, g1.lo, g1.hi⟩
    replace hr1 := Lib.hid hr1
    clear g1
    go_wp2_with fail
    refine Calls.mono K1.out ?_
    rintro e w1 ⟨rfl, ⟨lv1, h1⟩, c1⟩
    have H1 : Hid (Mk w1 B b mb lv1 rv L1 row) := h1
    have C1 := Lib.hid c1
    clear h1 c1 K1
    have g2 : No.Gr L1 (No.pAnd L1 a n1) 1 := No.and_gr H1.out.inv (by omega) (by omega) (by omega)
    have K2 := Lib.hid (mand_any w1 B b mb lv1 rv L1 row a n1 H1.out (by omega) (by omega) (by omega))
    obtain ⟨⟨L2, n2⟩, hr2⟩ : ∃ r, r = No.pAnd L1 a n1 := ⟨_, rfl⟩
    rw [← hr2] at g2 K2
    unfold Made at K2
    dsimp only at K2
    have q2 : L1.length ≤ L2.length ∧ L2.length ≤ L1.length + 1 ∧ 0 ≤ n2 ∧ n2 < L2.length := ⟨g2.len, g2.few, g2.lo, g2.hi⟩
    replace hr2 := Lib.hid hr2
    clear g2
    go_wp2_with fail
    refine Calls.mono K2.out ?_
    rintro e w2 ⟨rfl, ⟨lv2, h2⟩, c2⟩
    have H2 : Hid (Mk w2 B b mb lv2 rv L2 row) := h2
    have C2 := Lib.hid (Chg.trans C1.out c2 (fun _ _ h => h))
    clear h2 c2 K2
    have g3 : No.Gr L2 (No.pNot L2 n2) 1 := No.not_gr H2.out.inv (by omega) (by omega)
    have K3 := Lib.hid (mnot_any w2 B b mb lv2 rv L2 row n2 H2.out (by omega) (by omega))
    obtain ⟨⟨L3, n3⟩, hr3⟩ : ∃ r, r = No.pNot L2 n2 := ⟨_, rfl⟩
    rw [← hr3] at g3 K3
    unfold Made at K3
    dsimp only at K3
    have q3 : L2.length ≤ L3.length ∧ L3.length ≤ L2.length + 1 ∧ 0 ≤ n3 ∧ n3 < L3.length := ⟨g3.len, g3.few, g3.lo, g3.hi⟩
    replace hr3 := Lib.hid hr3
    clear g3
    go_wp2_with fail
    refine Calls.mono K3.out ?_
    rintro e w3 ⟨rfl, ⟨lv3, h3⟩, c3⟩
    have H3 : Hid (Mk w3 B b mb lv3 rv L3 row) := h3
    have C3 := Lib.hid (Chg.trans C2.out c3 (fun _ _ h => h))
    clear h3 c3 K3
    go_wp2
    go_ret
    have HV : No.two L 18 a b_ = (L3, n3) := by
      unfold No.two No.or2 No.or1 No.im2
      rw [if_neg (by omega), if_pos rfl]
      simp only [← hr1.out, ← hr2.out, ← hr3.out]
    rw [HV]
    exact ⟨rfl, ⟨_, H3.out⟩, C3.out⟩
  by_cases o25 : op = 25
  · subst o25
    go_enter Try.func68, Try.ntmps68
    have K1 := Lib.hid (mall_any w B b mb lv rv L row a b_ H0.out (by omega) (by omega) (by omega))
    go_wp2_with fail
    refine Calls.mono K1.out ?_
    rintro e w1 ⟨rfl, ⟨lv1, h1⟩, c1⟩
    have H1 := Lib.hid h1
    have C1 := Lib.hid c1
    clear h1 c1 K1
    go_wp2
    go_ret
    have HV : No.two L 25 a b_ = No.all L a b_ := by
      unfold No.two No.or2 No.or1 No.im2
      rw [if_neg (by omega), if_neg (by omega), if_pos rfl]
    rw [HV]
    exact ⟨rfl, ⟨_, H1.out⟩, C1.out⟩
  by_cases o26 : op = 26
  · subst o26
    go_enter Try.func68, Try.ntmps68
    have g1 : No.Gr L (No.pUntil L a b_) 1 := No.until_gr H0.out.inv (by omega) (by omega) (by omega)
    have K1 := Lib.hid (muntil_any w B b mb lv rv L row a b_ H0.out (by omega) (by omega) (by omega))
    obtain ⟨⟨L1, n1⟩, hr1⟩ : ∃ r, r = No.pUntil L a b_ := ⟨_, rfl⟩
    rw [← hr1] at g1 K1
    unfold Made at K1
    dsimp only at K1
    have q1 : L.length ≤ L1.length ∧ L1.length ≤ L.length + 1 ∧ 0 ≤ n1 ∧ n1 < L1.length := ⟨g1.len, g1.few, g1.lo, g1.hi⟩
    replace hr1 := Lib.hid hr1
    clear g1
    go_wp2_with fail
    refine Calls.mono K1.out ?_
    rintro e w1 ⟨rfl, ⟨lv1, h1⟩, c1⟩
    have H1 : Hid (Mk w1 B b mb lv1 rv L1 row) := h1
    have C1 := Lib.hid c1
    clear h1 c1 K1
    go_wp2
    go_ret
    have HV : No.two L 26 a b_ = (L1, n1) := by
      unfold No.two No.or2 No.or1 No.im2
      rw [if_neg (by omega), if_neg (by omega), if_neg (by omega), if_pos rfl]
      simp only [← hr1.out]
    rw [HV]
    exact ⟨rfl, ⟨_, H1.out⟩, C1.out⟩
  have d17 : (op == 17) = false := by simpa using o17
  have d18 : (op == 18) = false := by simpa using o18
  have d25 : (op == 25) = false := by simpa using o25
  have d26 : (op == 26) = false := by simpa using o26
  go_enter Try.func68, Try.ntmps68
  have g1 : No.Gr L (No.pAnd L a b_) 1 := No.and_gr H0.out.inv (by omega) (by omega) (by omega)
  have K1 := Lib.hid (mand_any w B b mb lv rv L row a b_ H0.out (by omega) (by omega) (by omega))
  obtain ⟨⟨L1, n1⟩, hr1⟩ : ∃ r, r = No.pAnd L a b_ := ⟨_, rfl⟩
  rw [← hr1] at g1 K1
  unfold Made at K1
  dsimp only at K1
  have q1 : L.length ≤ L1.length ∧ L1.length ≤ L.length + 1 ∧ 0 ≤ n1 ∧ n1 < L1.length := ⟨g1.len, g1.few, g1.lo, g1.hi⟩
  replace hr1 := Lib.hid hr1
  clear g1
  go_wp2_with fail
  refine Calls.mono K1.out ?_
  rintro e w1 ⟨rfl, ⟨lv1, h1⟩, c1⟩
  have H1 : Hid (Mk w1 B b mb lv1 rv L1 row) := h1
  have C1 := Lib.hid c1
  clear h1 c1 K1
  go_wp2
  go_ret
  have HV : No.two L op a b_ = (L1, n1) := by
    unfold No.two No.or2 No.or1 No.im2
    rw [if_neg o17, if_neg o18, if_neg o25, if_neg o26]
    simp only [← hr1.out]
  rw [HV]
  exact ⟨rfl, ⟨_, H1.out⟩, C1.out⟩
end Go.Proofs.Ytpppgnphblbbcaa
