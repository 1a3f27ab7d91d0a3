/- The walk of add. -/
import Derived.Test.YtpppgnphblbbcaaNmRead
import Derived.Deep.RegionLaw
namespace Go.Proofs.Ytpppgnphblbbcaa
open Go.RowKit

theorem known_of {kd : Int} (h : ¬ (kd < 1 ∨ 8 < kd)) : Nm.known kd = true := by unfold Nm.known; simp; omega
theorem unknown_of {kd : Int} (h : kd < 1 ∨ 8 < kd) : Nm.known kd = false := by unfold Nm.known; rcases h with h | h <;> simp <;> omega

def AddOk (b mb : Nat) (nv : Nat → Value) (l : List Nm.Stm) (x : Nm.Stm) (w w' : World) : Prop :=
  ∃ nv', TAt w' b mb nv' (l ++ [x]) ∧ Chg (TFoot b mb nv) w w' ∧ ∀ k, TFoot b mb nv' k → TFoot b mb nv k ∨ (w.heap.size ≤ k ∧ k < w'.heap.size)
def AddDone (b mb : Nat) (nv : Nat → Value) (l : List Nm.Stm) (x : Nm.Stm) (w w' : World) : Prop :=
  (Nm.bad l x ≠ 0 → Chg (fun _ => False) w w') ∧ (Nm.bad l x = 0 → AddOk b mb nv l x w w')
theorem addDone_bad {b mb : Nat} {nv : Nat → Value} {l : List Nm.Stm} {x : Nm.Stm} {w w' : World} (h : Nm.bad l x ≠ 0) (hC : Chg (fun _ => False) w w') : AddDone b mb nv l x w w' := ⟨fun _ => hC, fun h0 => absurd h0 h⟩
theorem addDone_ok {b mb : Nat} {nv : Nat → Value} {l : List Nm.Stm} {x : Nm.Stm} {w w' : World} (h : Nm.bad l x = 0) (hA : AddOk b mb nv l x w w') : AddDone b mb nv l x w w' := ⟨fun h0 => absurd h h0, fun _ => hA⟩

/-- A table in the midst of add: its counts, and the statements whose names it holds. -/
structure TMid (w : World) (b mb : Nat) (nv : Nat → Value) (cnt : Nat → Nat) (l : List Nm.Stm) : Prop where
  row : RowF w b 102 19 (tf mb nv cnt)
  map : MapAt Try.prog w mb 9 ((Nm.ents l).map entV)
  own : ∀ k, k < 9 → w.ownsRow 0 9 1 (nv k) (Nm.namesOf l k).length ((Nm.namesOf l k).map Value.string)
  apart : ∀ j k g, j < 9 → k < 9 → j ≠ k → (nv j).ownBlock = some g → (nv k).ownBlock ≠ some g
/-- The last step: the count. -/
theorem tmid_done {w0 w : World} {b mb : Nat} {nv0 nv : Nat → Value} {l : List Nm.Stm} {x : Nm.Stm} {j q : Nat} (h : TMid w b mb nv (fun k => Nm.ahead l k) (l ++ [x])) (hj : x.kind = (j : Int)) (hq : q = Nm.ahead l j) (h8 : j ≤ 8)
    (h0 : TAt w0 b mb nv0 l) (hz : x.name.size ≤ maxLen) (hb : Nm.bad l x = 0) (hmore : l.length < 1000000) (hc : Chg (TFoot b mb nv0) w0 w) (hF : ∀ k, TFoot b mb nv k → TFoot b mb nv0 k ∨ (w0.heap.size ≤ k ∧ k < w.heap.size)) :
    AddOk b mb nv0 l x w0 ((w.setCell ⟨b, 10 + j, none⟩ (.int .i64 ((q : Int) + 1))).drew) := by
  refine ⟨nv, ⟨?_, ?_, ?_, h.apart, ?_, ?_, Nm.fine_snoc h0.fine hb⟩, (hc.setCell (p := ⟨b, 10 + j, none⟩) (.inl (.inl rfl)) _).drew, ?_⟩
  · refine (h.row.set (10 + j) _).congr (fun i hi => ?_)
    unfold tf
    dsimp only
    by_cases h1 : i = 10 + j
    · rw [if_pos h1, if_neg (by omega), if_neg (by omega), Nm.ahead_snoc, hj, show i - 10 = j from by omega, if_pos rfl, ← hq]
      rfl
    · rw [if_neg h1]
      by_cases h2 : i = 0
      · rw [if_pos h2, if_pos h2]
      · rw [if_neg h2, if_neg h2]
        by_cases h3 : i < 10
        · rw [if_pos h3, if_pos h3]
        · rw [if_neg h3, if_neg h3, Nm.ahead_snoc, hj, if_neg (by omega), Nat.add_zero]
  · exact h.map.same (Below.heap_setCell _ _ _ _ (h.row.ne_map h.map))
  · intro k hk
    exact own_set (h.own k hk) (p := ⟨b, 10 + j, none⟩) (h.row.ne_own (h.own k hk) (by decide)) _
  · rw [List.length_append, List.length_singleton]; omega
  · intro y hy
    rcases List.mem_append.1 hy with hy | hy
    · exact h0.sizes y hy
    · rw [List.mem_singleton] at hy; subst hy; exact hz
  · have hsz : ((w.setCell ⟨b, 10 + j, none⟩ (.int .i64 ((q : Int) + 1))).drew).heap.size = w.heap.size := by simp [World.setCell, World.drew]
    rw [hsz]; exact hF

theorem tmid_plain {w : World} {b mb : Nat} {nv : Nat → Value} {l : List Nm.Stm} {x : Nm.Stm} (h : TAt w b mb nv l) (hn : Nm.isNamed x.kind = false) : TMid w b mb nv (fun k => Nm.ahead l k) (l ++ [x]) := by
  have he : Nm.ents (l ++ [x]) = Nm.ents l := by rw [Nm.ents_snoc, hn]; simp
  have hnm : ∀ k, Nm.namesOf (l ++ [x]) k = Nm.namesOf l k := fun k => by
    rw [Nm.namesOf_snoc, if_neg, List.append_nil]
    rintro ⟨rfl, h2⟩
    rw [hn] at h2; cases h2
  exact ⟨h.row, by rw [he]; exact h.map, fun k hk => by rw [hnm]; exact h.own k hk, h.apart⟩

theorem nv_foot {b mb : Nat} {nv : Nat → Value} {j : Nat} (hj : j < 9) {k : Nat} (h : (nv j).ownBlock = some k) : TFoot b mb nv k := .inr (.inr ⟨j, hj, h⟩)
/-- Behind the append of a name. -/
theorem tmid_append {w w3 w4 w5 : World} {b mb g cap q j : Nat} {nv : Nat → Value} {l : List Nm.Stm} {x : Nm.Stm}
    (h3 : TAt w3 b mb nv l) (hj : x.kind = (j : Int)) (h8 : j ≤ 8) (hn : Nm.isNamed j = true) (hq : q = Nm.ahead l j)
    (hm4 : MapAt Try.prog w4 mb 9 ((Nm.ents l).map entV ++ [(.string x.name, .agg #[.int .i64 j, .int .i64 q])])) (hc4 : Chg (fun i => i = mb) w3 w4)
    (hc5 : Chg (fun k => (nv j).ownBlock = some k) w4 w5) (hown : w5.ownsRow 0 9 1 (.slice (some ⟨g, 0, none⟩) (q + 1) cap) (q + 1) ((Nm.namesOf l j).map Value.string ++ [.string x.name]))
    (hat : (nv j).ownBlock = some g ∨ w4.heap.size ≤ g) (hg : g < w5.heap.size) (hc3 : Chg (fun _ => False) w w3) :
    ∃ nv', TMid (w5.setCell ⟨b, 1 + j, none⟩ (.slice (some ⟨g, 0, none⟩) (q + 1) cap)) b mb nv' (fun k => Nm.ahead l k) (l ++ [x]) ∧ Chg (TFoot b mb nv) w (w5.setCell ⟨b, 1 + j, none⟩ (.slice (some ⟨g, 0, none⟩) (q + 1) cap)) ∧
      ∀ k, TFoot b mb nv' k → TFoot b mb nv k ∨ (w.heap.size ≤ k ∧ k < (w5.setCell ⟨b, 1 + j, none⟩ (.slice (some ⟨g, 0, none⟩) (q + 1) cap)).heap.size) := by
  have hmb : mb ≠ b := h3.row.ne_map h3.map
  have r4 : RowF w4 b 102 19 (tf mb nv (fun k => Nm.ahead l k)) := h3.row.chg hc4 (fun e => hmb e.symm)
  have o4 : ∀ k, k < 9 → w4.ownsRow 0 9 1 (nv k) (Nm.namesOf l k).length ((Nm.namesOf l k).map Value.string) := fun k hk => own_chg (h3.own k hk) hc4 (fun g' hg' e => by subst e; exact h3.map.ne_own (h3.own k hk) hg')
  have r5 : RowF w5 b 102 19 (tf mb nv (fun k => Nm.ahead l k)) := r4.chg hc5 (r4.ne_own (o4 j (by omega)) (by decide))
  have hsz : (w5.setCell ⟨b, 1 + j, none⟩ (.slice (some ⟨g, 0, none⟩) (q + 1) cap)).heap.size = w5.heap.size := by simp [World.setCell]
  have hgb : g ≠ b := fun e => (r5.ne_own hown (by decide)) (by rw [e]; rfl)
  refine ⟨fun k => if k = j then .slice (some ⟨g, 0, none⟩) (q + 1) cap else nv k, ⟨?_, ?_, ?_, ?_⟩, ?_, ?_⟩
  · refine (r5.set (1 + j) _).congr (fun i hi => ?_)
    unfold tf
    dsimp only
    by_cases h1 : i = 1 + j
    · rw [if_pos h1, if_neg (by omega), if_pos (by omega), if_pos (by omega)]
    · rw [if_neg h1]
      by_cases h2 : i = 0
      · rw [if_pos h2, if_pos h2]
      · rw [if_neg h2, if_neg h2]
        by_cases h4 : i < 10
        · rw [if_pos h4, if_pos h4, if_neg (by omega)]
        · rw [if_neg h4, if_neg h4]
  · have e : (Nm.ents (l ++ [x])).map entV = (Nm.ents l).map entV ++ [(.string x.name, .agg #[.int .i64 j, .int .i64 q])] := by
      rw [Nm.ents_snoc, hj, hn, List.map_append, hq]; rfl
    rw [e]
    refine (hm4.chg hc5 (hm4.ne_own (o4 j (by omega)))).same (Below.heap_setCell _ _ _ _ hmb)
  · intro k hk
    by_cases e : k = j
    · subst e
      try dsimp only
      rw [if_pos rfl]
      have e2 : Nm.namesOf (l ++ [x]) k = Nm.namesOf l k ++ [x.name] := by rw [Nm.namesOf_snoc, if_pos ⟨hj, hn⟩]
      rw [e2, List.length_append, List.length_singleton, List.map_append, Nm.namesOf_len hn, ← hq]
      exact own_set hown (p := ⟨b, 1 + k, none⟩) (by simpa [Value.ownBlock] using hgb) _
    · rw [if_neg e]
      have e2 : Nm.namesOf (l ++ [x]) k = Nm.namesOf l k := by rw [Nm.namesOf_snoc, if_neg (by rw [hj]; omega), List.append_nil]
      rw [e2]
      have o5 := own_chg (o4 k hk) hc5 (fun g' hg' hj' => h3.apart j k g' (by omega) hk (fun h => e h.symm) hj' hg')
      exact own_set o5 (p := ⟨b, 1 + j, none⟩) (r5.ne_own o5 (by decide)) _
  · intro i k g' hi hk hik
    have key : ∀ m, m < 9 → m ≠ j → (nv m).ownBlock ≠ some g := by
      intro m hm hmj hmg
      rcases hat with e | e
      · exact h3.apart j m g (by omega) hm (fun h => hmj h.symm) e hmg
      · have := own_lt (o4 m hm) g hmg; omega
    by_cases e1 : i = j
    · rw [if_pos e1, if_neg (by omega)]
      intro hg'
      have e : g = g' := by simpa [Value.ownBlock] using hg'
      subst e
      exact key k hk (by omega)
    · rw [if_neg e1]
      by_cases e2 : k = j
      · rw [if_pos e2]
        intro hg' hg2
        have e : g = g' := by simpa [Value.ownBlock] using hg2
        subst e
        exact key i hi e1 hg'
      · rw [if_neg e2]
        exact h3.apart i k g' hi hk hik
  · have c1 := Chg.trans (hc3.mono (T := TFoot b mb nv) (fun _ _ h => h.elim)) hc4 (fun i _ e => .inr (.inl e))
    have c2 := Chg.trans c1 hc5 (fun i _ e => nv_foot (by omega) e)
    exact c2.setCell (p := ⟨b, 1 + j, none⟩) (.inl (.inl rfl)) _
  · rw [hsz]
    rintro k (e | e | ⟨m, hm, e⟩)
    · exact .inl (.inl e)
    · exact .inl (.inr (.inl e))
    · dsimp only at e
      by_cases e1 : m = j
      · rw [if_pos e1] at e
        have e : g = k := by simpa [Value.ownBlock] using e
        subst e
        rcases hat with e | e
        · exact .inl (nv_foot (by omega) e)
        · have := hc3.size; have := hc4.size; right; omega
      · rw [if_neg e1] at e
        exact .inl (nv_foot hm e)

theorem str_info : (Try.prog.info? 9).map (fun i => (i.zero, i.size, i.bytes)) = some (some (.string ⟨#[]⟩), 1, 16) := by kernel_rfl
theorem one_new {w : World} {B : Nat} {x : Value} {t : TypeId} (h : Blk w B t #[x]) : ∀ j u, [x][j]? = some u → w.cell? ((⟨B, 0, none⟩ : Addr).add j) = some u := fun j u hu => by
  match j, hu with
  | 0, hu =>
    have : (⟨B, 0, none⟩ : Addr).add 0 = ⟨B, 0, none⟩ := by simp [Addr.add]
    rw [this, h.cell]; simpa using hu

set_option maxRecDepth 100000 in
set_option maxHeartbeats 2000000 in
theorem add_any (w : World) (b mb : Nat) (nv : Nat → Value) (l : List Nm.Stm) (x : StmC) (h : TAt w b mb nv l) (hz : x.s.name.size ≤ maxLen) (hmore : l.length < 1000000) :
    Calls Try.prog 53 #[.pointer (some ⟨b, 0, none⟩), .agg x.cells.toArray] w fun e w' => e = .returned (.int .i64 (Nm.bad l x.s)) ∧ AddDone b mb nv l x.s w w' := by
  unfold StmC.cells
  obtain ⟨⟨kd, nm, ln, cl⟩, ini, nA, nn, nc, ro, st, ev, tm, fA, fn, fc, fi⟩ := x
  dsimp only at hz ⊢
  have H0 := Lib.hid h
  have HZ := Lib.hid hz
  clear h hz
  obtain ⟨i9, hi9, hz90, hz91, hz92⟩ := info_parts str_info
  go_enter Try.func53, Try.ntmps53
  go_wp2_with fail
  obtain ⟨w1, hw1⟩ : ∃ w1, w1 = w.alloc (.cells #[.int .i64 kd, .string nm, .int .i64 ln, .int .i64 cl, .int .i64 ini, .slice nA nn nc, .string ro, .string st, .string ev, .int .i64 tm, .slice fA fn fc, .bool fi] 35) := ⟨_, rfl⟩
  obtain ⟨xb, hxb⟩ : ∃ xb, xb = w.heap.size := ⟨_, rfl⟩
  rw [← hw1, ← hxb]
  have X1 : Hid (Blk w1 xb 35 #[.int .i64 kd, .string nm, .int .i64 ln, .int .i64 cl, .int .i64 ini, .slice nA nn nc, .string ro, .string st, .string ev, .int .i64 tm, .slice fA fn fc, .bool fi]) := by rw [hw1, hxb]; exact Blk.new _ _ _
  have C1 : Hid (Chg (fun _ => False) w w1) := by rw [hw1]; exact (Chg.refl _ _).alloc _
  have HXB := Lib.hid hxb
  clear hw1 hxb
  by_cases hk : kd < 1 ∨ 8 < kd
  · have hkn := unknown_of hk
    have hbd : Hid (Nm.bad l ⟨kd, nm, ln, cl⟩ = 8) := Nm.bad_kind hk
    go_wp2_with (go_at_call 54; refine (known_any _ _).mono ?_; rintro e w' ⟨rfl, rfl⟩)
    go_ret
    exact ⟨ret_int hbd.out.symm, addDone_bad (by rw [hbd.out]; decide) C1.out⟩
  · have hkn := known_of hk
    have HKN := Lib.hid hkn
    obtain ⟨j, rfl, h1, h8⟩ := known_cases hkn
    have hT1 := Lib.hid (H0.out.quiet C1.out)
    have hbl := hT1.out.row.lt
    have d0 := hT1.out.cntCell (k := j) (by omega)
    obtain ⟨q, hq⟩ : ∃ q, q = Nm.ahead l j := ⟨_, rfl⟩
    rw [← hq] at d0
    have HQ := Lib.hid hq
    have hqb : q ≤ l.length := by rw [hq]; exact Nm.ahead_le _ _
    clear hq hk
    go_wp2_with (go_at_call 54; refine (known_any _ _).mono ?_; rintro e w' ⟨rfl, rfl⟩)
    go_quiet ((go_at_call 73; exact Calls.quiet_of_same ((most_any _ _).mono fun _ _ h => ⟨h.1, h.2.symm⟩)))
    obtain ⟨w2, hw2⟩ : ∃ w2, w2 = w1.drewN nq := ⟨_, rfl⟩
    rw [← hw2]
    have X2 : Hid (Blk w2 xb 35 #[.int .i64 j, .string nm, .int .i64 ln, .int .i64 cl, .int .i64 ini, .slice nA nn nc, .string ro, .string st, .string ev, .int .i64 tm, .slice fA fn fc, .bool fi]) := by rw [hw2]; exact X1.out
    have C2 : Hid (Chg (fun _ => False) w w2) := by rw [hw2]; exact C1.out.drewN _
    have hT2 := Lib.hid (H0.out.quiet C2.out)
    clear hw2 X1 C1 hT1 d0 hbl
    by_cases hm : Nm.most j ≤ (q : Int)
    · have hbd : Hid (Nm.bad l ⟨j, nm, ln, cl⟩ = 3) := Nm.bad_long HKN.out (by dsimp only; rw [← HQ.out]; exact hm)
      go_wp2
      go_ret
      exact ⟨ret_int hbd.out.symm, addDone_bad (by rw [hbd.out]; decide) C2.out⟩
    · cases hn : Nm.isNamed j with
      | false =>
        have d2 := hT2.out.cntCell (k := j) (by omega)
        rw [← HQ.out] at d2
        have g2 := hT2.out.row.frozen (10 + j)
        go_wp2_with (go_at_call 74; refine (named_any _ _).mono ?_; rintro e w' ⟨rfl, rfl⟩)
        go_region
        go_wp2
        go_ret
        have hbd : Nm.bad l ⟨j, nm, ln, cl⟩ = 0 := Nm.bad_none HKN.out (by dsimp only; rw [← HQ.out]; omega) (fun h => by dsimp only at h; rw [hn] at h; cases h)
        refine ⟨ret_int hbd.symm, addDone_ok hbd (tmid_done (x := ⟨j, nm, ln, cl⟩) (tmid_plain hT2.out hn) rfl HQ.out h8 H0.out HZ.out hbd hmore (C2.out.mono (fun _ _ h => h.elim)) (fun k hk => .inl hk))⟩
      | true =>
        have HN := Lib.hid hn
        obtain ⟨x0, x1, _⟩ := stm_blk X2.out
        have m0 := hT2.out.mapCell
        have d2 := hT2.out.cntCell (k := j) (by omega)
        rw [← HQ.out] at d2
        have hbl := hT2.out.row.lt
        by_cases hf : Nm.findI l nm < 0
        · have hbd : Hid (Nm.bad l ⟨j, nm, ln, cl⟩ = 0) := Nm.bad_none HKN.out (by dsimp only; rw [← HQ.out]; omega) (fun _ => hf)
          have hlk : ∀ nq, (Instr.lookup 98 (.map (some mb)) (.string nm) false).run Try.prog (w2.drewN nq) = .ok (.agg #[.int .i64 0, .int .i64 0]) (w2.drewN nq) := by
            intro nq
            have := (hT2.out.quiet ((Chg.refl _ w2).drewN nq)).look_miss HZ.out hf false
            simpa using this
          have HF := Lib.hid hf
          clear hf
          go_wp2_with (go_at_call 74; refine (named_any _ _).mono ?_; rintro e w' ⟨rfl, rfl⟩)
          go_quiet (fail)
          obtain ⟨w3, hw3⟩ : ∃ w3, w3 = w2.drewN nq := ⟨_, rfl⟩
          rw [← hw3]
          have X3 : Hid (Blk w3 xb 35 #[.int .i64 j, .string nm, .int .i64 ln, .int .i64 cl, .int .i64 ini, .slice nA nn nc, .string ro, .string st, .string ev, .int .i64 tm, .slice fA fn fc, .bool fi]) := by rw [hw3]; exact X2.out
          have C3 : Hid (Chg (fun _ => False) w w3) := by rw [hw3]; exact C2.out.drewN _
          have hT3 := Lib.hid (H0.out.quiet C3.out)
          obtain ⟨y0, y1, _⟩ := stm_blk X3.out
          have m3 := hT3.out.mapCell
          have e3 := hT3.out.cntCell (k := j) (by omega)
          rw [← HQ.out] at e3
          have hbl3 := hT3.out.row.lt
          obtain ⟨w4, hup, hm4, hc4, hs4⟩ := (hT3.out.quiet ((Chg.refl _ w3).drew)).map.fresh str_keyed Try.underlying98 (str_key HZ.out) (fun p hp e => by
            obtain ⟨⟨n, k, x⟩, hm, rfl⟩ := List.mem_map.1 hp
            have e : Value.string n = .string nm := e
            injection e with e
            subst e
            exact Nm.ents_miss HF.out k x hm) (.agg #[.int .i64 j, .int .i64 q])
          have HM4 := Lib.hid hm4
          have HC4 := Lib.hid hc4
          clear hm4 hc4 hlk hw3 X2 C2 hT2 x0 x1 m0 d2 hbl
          go_wp2
          go_region
          have HC4' : Hid (Chg (fun i => i = mb) w3 w4) := Chg.trans (((Chg.refl (fun i => i = mb) w3)).drew) HC4.out (fun _ _ h => h)
          have hmb : mb ≠ b := hT3.out.row.ne_map hT3.out.map
          have X4 : Blk w4 xb 35 #[.int .i64 j, .string nm, .int .i64 ln, .int .i64 cl, .int .i64 ini, .slice nA nn nc, .string ro, .string st, .string ev, .int .i64 tm, .slice fA fn fc, .bool fi] := X3.out.chg HC4'.out (fun (e : xb = mb) => (hT3.out.map.ne_blk X3.out) e.symm)
          have R4 : RowF w4 b 102 19 (tf mb nv (fun k => Nm.ahead l k)) := hT3.out.row.chg HC4'.out (fun (e : b = mb) => hmb e.symm)
          have O4 := own_chg (hT3.out.own j (by omega)) HC4'.out (fun g' hg' e => by subst e; exact hT3.out.map.ne_own (hT3.out.own j (by omega)) hg')
          have hlen : (Nm.namesOf l j).length = q := by rw [Nm.namesOf_len HN.out, ← HQ.out]
          rw [hlen] at O4
          obtain ⟨A, c, hnv, _, _⟩ := own_slice O4
          have n4 : w4.cell? ⟨b, 1 + j, none⟩ = some (.slice A q c) := by
            rw [R4.cell (by omega)]
            unfold tf; rw [if_neg (by omega), if_pos (by omega), show 1 + j - 1 = j from by omega, hnv]
          have g4 := R4.frozen (1 + j)
          obtain ⟨z0, z1, _⟩ := stm_blk X4
          have hbl4 := R4.lt
          have hnv := Lib.hid hnv
          rw [hnv.out] at O4
          have HO4 := Lib.hid O4
          have HR4 := Lib.hid R4
          have HX4 := Lib.hid X4
          clear hlen O4 R4 X4 HC4 hup hs4 y0 y1 m3 e3 hbl3 hmb
          have hj9 : (j : Int) < 9 := by omega
          have N4 : Hid (tf mb nv (fun k => Nm.ahead l k) (1 + j) = .slice A q c) := by
            show tf mb nv (fun k => Nm.ahead l k) (1 + j) = .slice A q c
            unfold tf; rw [if_neg (by omega), if_pos (by omega), show 1 + j - 1 = j from by omega, hnv.out]
          go_wp2
          go_cut [] (fun w6 => Hid (∃ nv', TMid w6 b mb nv' (fun k => Nm.ahead l k) (l ++ [⟨j, nm, ln, cl⟩]) ∧ Chg (TFoot b mb nv) w w6 ∧ ∀ k, TFoot b mb nv' k → TFoot b mb nv k ∨ (w.heap.size ≤ k ∧ k < w6.heap.size)))
          case first =>
            go_region_law (refine step_append_lies _ rfl (.tmp 54) (.tmp 57) 32 rfl 0 9 i9 _ 1 16 Try.underlying32 hi9 hz90 hz91 hz92 rfl (by omega) (.slice A q c) q ((Nm.namesOf l j).map Value.string) rfl (by exact World.ownsRow.alloc (w := w4.drew) HO4.out _) ⟨w4.heap.size, 0, none⟩ 1 1 [.string nm] rfl rfl (by exact one_new (Blk.new w4.drew _ _)) (by intro u hu; simp at hu; subst hu; rfl) (by omega) (by unfold maxLen; omega) (by omega) (Nat.zero_le _) (w4.heap.size + 1) (by simp) ?_; intro g cap w5 hown5 hg5 hat5 hlt5; have HC5 : Hid (Chg (fun k => (nv j).ownBlock = some k) w4 w5) := (by show Chg (fun k => (nv j).ownBlock = some k) w4 w5; rw [hnv.out]; first | exact Chg.grown (((Chg.refl _ w4).alloc _).drew) hg5 (fun k hk => .inl hk) | exact Chg.grown (((Chg.refl _ w4).drew).alloc _) hg5 (fun k hk => .inl hk)); have R5 := Lib.hid (HR4.out.chg HC5.out (by rw [hnv.out]; exact HR4.out.ne_own HO4.out (by decide))); have n5 : w5.cell? ⟨b, 1 + j, none⟩ = some (.slice A q c) := (by rw [R5.out.cell (by omega)]; exact congrArg some N4.out); have g5 := R5.out.frozen (1 + j); have HAT : Hid ((nv j).ownBlock = some g ∨ w4.heap.size ≤ g) := (by show (nv j).ownBlock = some g ∨ w4.heap.size ≤ g; rw [hnv.out]; rcases hat5 with e | e; exact .inl e; exact .inr (by omega)); have HO5 := Lib.hid hown5; have HL5 := Lib.hid hlt5; clear hown5 hg5 hat5 hlt5)
            all_goals (go_wp2_with fail; go_meet; exact tmid_append (x := ⟨j, nm, ln, cl⟩) hT3.out rfl h8 HN.out HQ.out HM4.out HC4'.out HC5.out HO5.out HAT.out HL5.out C3.out)
          case rest =>
            obtain ⟨nv', hM, hCC, hFF⟩ := hcut.out
            have d6 : wc.cell? ⟨b, 10 + j, none⟩ = some (.int .i64 q) := by
              rw [hM.row.cell (by omega)]
              unfold tf; rw [if_neg (by omega), if_neg (by omega), show 10 + j - 10 = j from by omega, HQ.out]
            have g6 := hM.row.frozen (10 + j)
            have hM := Lib.hid hM
            have hCC := Lib.hid hCC
            have hFF := Lib.hid hFF
            clear hcut n4 g4 z0 z1 hbl4
            go_wp2
            go_region
            go_wp2
            go_ret
            exact ⟨ret_int hbd.out.symm, addDone_ok hbd.out (tmid_done (x := ⟨j, nm, ln, cl⟩) hM.out rfl HQ.out h8 H0.out HZ.out hbd.out hmore hCC.out hFF.out)⟩
        · obtain ⟨i, hii⟩ : ∃ i : Nat, Nm.findI l nm = (i : Int) := ⟨(Nm.findI l nm).toNat, by omega⟩
          have hbd : Hid (Nm.bad l ⟨j, nm, ln, cl⟩ = 6) := Nm.bad_twice HKN.out (by dsimp only; rw [← HQ.out]; omega) HN.out (by dsimp only; omega)
          obtain ⟨y, hy, _, _⟩ := Nm.findI_get hii
          have hyk : (y.kind == 0) = false := by
            obtain ⟨hi2, he⟩ := List.getElem?_eq_some_iff.1 hy
            obtain ⟨hk2, _⟩ := Nm.bad_zero (H0.out.fine i hi2)
            rw [he] at hk2
            obtain ⟨m, hm2, _⟩ := known_cases hk2
            simp; omega
          have hlk : ∀ nq, (Instr.lookup 98 (.map (some mb)) (.string nm) false).run Try.prog (w2.drewN nq) = .ok (.agg #[.int .i64 y.kind, .int .i64 (Nm.ahead (l.take i) y.kind)]) (w2.drewN nq) := by
            intro nq
            have := (hT2.out.quiet ((Chg.refl _ w2).drewN nq)).look_hit HZ.out hii hy false
            simpa using this
          obtain ⟨yk, hyk2⟩ : ∃ yk, yk = y.kind := ⟨_, rfl⟩
          obtain ⟨yn, hyn⟩ : ∃ yn, yn = Nm.ahead (l.take i) y.kind := ⟨_, rfl⟩
          rw [← hyn, ← hyk2] at hlk
          rw [← hyk2] at hyk
          clear hf hii hy hyn hyk2
          go_wp2_with (go_at_call 74; refine (named_any _ _).mono ?_; rintro e w' ⟨rfl, rfl⟩)
          go_quiet (fail)
          go_wp2
          go_ret
          exact ⟨ret_int hbd.out.symm, addDone_bad (by rw [hbd.out]; decide) (C2.out.drewN _)⟩
end Go.Proofs.Ytpppgnphblbbcaa
