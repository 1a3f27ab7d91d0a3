/- The region that makes a model of as much of each kind as there are names: in whatever order its operations come. -/
import Derived.Test.YtpppgnphblbbcaaBfHas
import Derived.Test.YtpppgnphblbbcaaBfOrder
import Derived.Test.YtpppgnphblbbcaaNmRead
import Derived.Laws.OwnMore
namespace Go.Proofs.Ytpppgnphblbbcaa
open Go.RowKit

section
variable {P : Program} {ops : Array Oper} {Q : Exit → Act → World → Prop} {a : Act} {w w' : World} {i : Nat} {o : Oper} {K : Act → World → Prop}
theorem wpOp_value {v : Value} (ho : ops[i]? = some o) (hg : o.guard = none) (hrun : (execOp a.eval o).run P w = .ok (.value v) w') (hk : K (a.put o.dst v) w') : wpOp P ops Q i K a w := by
  unfold wpOp
  rw [ho]
  have hw : Region.wanted o (yielded ops a.tmps) = true := by simp [Region.wanted, hg]
  show if Region.wanted o (yielded ops a.tmps) = true then _ else _
  rw [if_pos hw]
  left
  unfold Oper.wp
  rw [hrun]
  exact hk
theorem wpOp_skip (ho : ops[i]? = some o) (hg : o.guard = none) (hrun : (execOp a.eval o).run P w = .ok .skip w') (hk : K (a.put o.dst undef) w') : wpOp P ops Q i K a w := by
  unfold wpOp
  rw [ho]
  have hw : Region.wanted o (yielded ops a.tmps) = true := by simp [Region.wanted, hg]
  show if Region.wanted o (yielded ops a.tmps) = true then _ else _
  rw [if_pos hw]
  left
  unfold Oper.wp
  rw [hrun]
  exact hk
theorem wpOp_enter {f : FuncId} {args : Array Value} (ho : ops[i]? = some o) (hg : o.guard = none) (hrun : (execOp a.eval o).run P w = .ok (.enter f args) w) (hk : Calls P f args w fun e w' => ∃ v, e = .returned v ∧ K (a.put o.dst v) w') : wpOp P ops Q i K a w := by
  unfold wpOp
  rw [ho]
  have hw : Region.wanted o (yielded ops a.tmps) = true := by simp [Region.wanted, hg]
  show if Region.wanted o (yielded ops a.tmps) = true then _ else _
  rw [if_pos hw]
  left
  unfold Oper.wp
  rw [hrun]
  refine Calls.mono hk ?_
  rintro e w'' ⟨v, rfl, h⟩
  exact h
end
theorem run_mv {a : Act} {o : Oper} {x : Operand} {w : World} (h : o.op = .move x) : (execOp a.eval o).run Try.prog w = .ok (.value (a.eval x)) w := by
  simp [execOp, h]
theorem run_cnt {a : Act} {o : Oper} {s : Nat} {k : Int} {b : Nat} {w : World} (h : o.op = .call { callee := .value (.func 19), args := #[.tmp s, .const (.int .i64 k)], argTypes := #[24, 3] }) (hs : a.tmps[s]?.getD undef = .pointer (some ⟨b, 0, none⟩)) :
    (execOp a.eval o).run Try.prog w = .ok (.enter 19 #[.pointer (some ⟨b, 0, none⟩), .int .i64 k]) w := by
  simp [execOp, h, resolve, hs, go_sem]
theorem run_al {a : Act} {o : Oper} {w : World} (h : o.op = .alloc 95) : (execOp a.eval o).run Try.prog w = .ok (.value (.pointer (some ⟨w.heap.size, 0, none⟩))) (w.alloc (.cells (modA emp0) 95)) := by
  unfold modA emp0
  simp [execOp, h, go_sem, Result.andThen]
theorem run_st {a : Act} {o : Oper} {w : World} {z : Nat} {m m0 : Emp} (h : o.op = .store 95 (.tmp 9) (.tmp 48)) (h9 : a.tmps[9]?.getD undef = .pointer (some ⟨z, 0, none⟩)) (h48 : a.tmps[48]?.getD undef = modV m) (hb : Blk w z 95 (modA m0)) : ∃ w', (execOp a.eval o).run Try.prog w = .ok .skip w' ∧ Blk w' z 95 (modA m) ∧ Chg (fun k => k = z) w w' := by
  obtain ⟨e0, e1, e2, e3, e4, e5, e6, e7, e8, e9⟩ := mod_cells hb
  have g0 := hb.frozen 0
  have g1 := hb.frozen 1
  have g2 := hb.frozen 2
  have g3 := hb.frozen 3
  have g4 := hb.frozen 4
  have g5 := hb.frozen 5
  have g6 := hb.frozen 6
  have g7 := hb.frozen 7
  have g8 := hb.frozen 8
  have g9 := hb.frozen 9
  have hl := hb.lt
  unfold modV modA at h48
  refine ⟨_, by simp [execOp, h, h9, h48, go_sem, Result.andThen, e0, e1, e2, e3, e4, e5, e6, e7, e8, e9, g0, g1, g2, g3, g4, g5, g6, g7, g8, g9]; rfl, ?_, ?_⟩
  · have h := (((((((((hb.set 0 (.slice m.aA m.nA m.cA)).set 1 (.slice none 0 0)).set 2 (.slice m.aU m.nU m.cU)).set 3 (.slice none 0 0)).set 4 (.slice m.aS m.nS m.cS)).set 5 (.slice m.aE m.nE m.cE)).set 6 (.slice none 0 0)).set 7 (.slice m.aM m.nM m.cM)).set 8 (.slice none 0 0)).set 9 (.slice none 0 0)
    have e : ((((((((((modA m0).setIfInBounds 0 (.slice m.aA m.nA m.cA)).setIfInBounds 1 (.slice none 0 0)).setIfInBounds 2 (.slice m.aU m.nU m.cU)).setIfInBounds 3 (.slice none 0 0)).setIfInBounds 4 (.slice m.aS m.nS m.cS)).setIfInBounds 5 (.slice m.aE m.nE m.cE)).setIfInBounds 6 (.slice none 0 0)).setIfInBounds 7 (.slice m.aM m.nM m.cM)).setIfInBounds 8 (.slice none 0 0)).setIfInBounds 9 (.slice none 0 0) = modA m := by
      unfold modA; simp
    rw [e] at h
    exact h
  · have c := Chg.refl (fun k => k = z) w
    exact (((((((((c.setCell (p := ⟨z, 0, none⟩) (.inl rfl) _).setCell (p := ⟨z, 1, none⟩) (.inl rfl) _).setCell (p := ⟨z, 2, none⟩) (.inl rfl) _).setCell (p := ⟨z, 3, none⟩) (.inl rfl) _).setCell (p := ⟨z, 4, none⟩) (.inl rfl) _).setCell (p := ⟨z, 5, none⟩) (.inl rfl) _).setCell (p := ⟨z, 6, none⟩) (.inl rfl) _).setCell (p := ⟨z, 7, none⟩) (.inl rfl) _).setCell (p := ⟨z, 8, none⟩) (.inl rfl) _).setCell (p := ⟨z, 9, none⟩) (.inl rfl) _
theorem run_ms {a : Act} {o : Oper} {w : World} {s n t e : Nat} {i : TypeInfo} {z : Value} {size bytes : Nat} (h : o.op = .makeSlice t (.tmp s) (.tmp s)) (hs : a.tmps[s]?.getD undef = .int .i64 (n : Int)) (ht : Try.prog.underlying t = some (.slice e)) (hi : Try.prog.info? e = some i) (hz : i.zero = some z) (hsize : i.size = size) (hb : i.bytes = bytes) (hb2 : bytes ≤ 1000) (hn : n ≤ 1000) :
    ∃ A w', (execOp a.eval o).run Try.prog w = .ok (.value (.slice A n n)) w' ∧ Chg (fun _ => False) w w' := by
  obtain ⟨w', hr, _, hg⟩ := run_make_full (P := Try.prog) w 0 t e i z size ht hi hz hsize .i64 .i64 n (by rw [hb]; have := Nat.mul_le_mul hb2 hn; omega) (by unfold maxLen; omega) (Nat.zero_le _)
  have hc : Chg (fun _ => False) w w' := Chg.grown (Chg.refl _ w) hg (fun k hk => by cases hk)
  refine ⟨some ⟨w.heap.size, 0, none⟩, w', ?_, hc⟩
  simp only [execOp, h, Act.eval]
  have hs' : a.tmps.getD s undef = .int .i64 (n : Int) := by simpa using hs
  rw [hs']
  simp [hr, Result.andThen]
theorem info9 : (Try.prog.info? 9).map (fun i => (i.zero, i.size, i.bytes)) = some (some (.string ⟨#[]⟩), 1, 16) := by kernel_rfl
theorem info170 : (Try.prog.info? 170).map (fun i => (i.zero, i.size, i.bytes)) = some (some (.agg #[.string ⟨#[]⟩, .int .i64 0]), 2, 24) := by kernel_rfl
theorem info172 : (Try.prog.info? 172).map (fun i => (i.zero, i.size, i.bytes)) = some (some (.agg #[.string ⟨#[]⟩, .int .i64 0, .int .i64 0, .slice none 0 0, .int .i64 0]), 5, 64) := by kernel_rfl
theorem info174 : (Try.prog.info? 174).map (fun i => (i.zero, i.size, i.bytes)) = some (some (.agg #[.string ⟨#[]⟩, .int .i64 0, .int .i64 0, .slice none 0 0, .bool false]), 5, 64) := by kernel_rfl
/-- The slots that the region writes. -/
def ds6 : List Nat := [33, 34, 35, 36, 37, 38, 39, 40, 41, 42, 43, 44, 45, 46, 47, 48, 9]
/-- A model of just so many. -/
structure Szd (m : Emp) (n1 n2 n4 n5 n7 : Nat) : Prop where
  a : m.nA = n1
  u : m.nU = n2
  s : m.nS = n4
  e : m.nE = n5
  m : m.nM = n7
def dst6 (i : Nat) : Nat := if i < 16 then 33 + i else 9
/-- What an operation that has been carried out has left. -/
def OK6 (b : Nat) (w0 : World) (n1 n2 n4 n5 n7 : Nat) (i : Nat) (f : Nat → Value) (w : World) : Prop :=
  match i with
  | 0 => f 33 = .pointer (some ⟨b, 0, none⟩)
  | 1 => f 34 = .int .i64 (n1 : Int)
  | 2 => ∃ A, f 35 = .slice A n1 n1
  | 3 => f 36 = .pointer (some ⟨b, 0, none⟩)
  | 4 => f 37 = .int .i64 (n2 : Int)
  | 5 => ∃ A, f 38 = .slice A n2 n2
  | 6 => f 39 = .pointer (some ⟨b, 0, none⟩)
  | 7 => f 40 = .int .i64 (n4 : Int)
  | 8 => ∃ A, f 41 = .slice A n4 n4
  | 9 => f 42 = .pointer (some ⟨b, 0, none⟩)
  | 10 => f 43 = .int .i64 (n5 : Int)
  | 11 => ∃ A, f 44 = .slice A n5 n5
  | 12 => f 45 = .pointer (some ⟨b, 0, none⟩)
  | 13 => f 46 = .int .i64 (n7 : Int)
  | 14 => ∃ A, f 47 = .slice A n7 n7
  | 15 => ∃ m, f 48 = modV m ∧ Szd m n1 n2 n4 n5 n7
  | 16 => ∃ z, f 9 = .pointer (some ⟨z, 0, none⟩) ∧ w0.heap.size ≤ z ∧ ∃ m, Blk w z 95 (modA m)
  | 17 => ∃ z m, f 9 = .pointer (some ⟨z, 0, none⟩) ∧ w0.heap.size ≤ z ∧ Blk w z 95 (modA m) ∧ Szd m n1 n2 n4 n5 n7
  | _ => True
theorem OK6.mono {b : Nat} {w0 : World} {n1 n2 n4 n5 n7 : Nat} {f f' : Nat → Value} {w w' : World} : ∀ {i : Nat}, OK6 b w0 n1 n2 n4 n5 n7 i f w → (i < 16 ∨ Chg (fun _ => False) w w') → f' (dst6 i) = f (dst6 i) → OK6 b w0 n1 n2 n4 n5 n7 i f' w'
  | 0, h, _, e => Eq.trans e h
  | 1, h, _, e => Eq.trans e h
  | 2, ⟨A, h⟩, _, e => ⟨A, Eq.trans e h⟩
  | 3, h, _, e => Eq.trans e h
  | 4, h, _, e => Eq.trans e h
  | 5, ⟨A, h⟩, _, e => ⟨A, Eq.trans e h⟩
  | 6, h, _, e => Eq.trans e h
  | 7, h, _, e => Eq.trans e h
  | 8, ⟨A, h⟩, _, e => ⟨A, Eq.trans e h⟩
  | 9, h, _, e => Eq.trans e h
  | 10, h, _, e => Eq.trans e h
  | 11, ⟨A, h⟩, _, e => ⟨A, Eq.trans e h⟩
  | 12, h, _, e => Eq.trans e h
  | 13, h, _, e => Eq.trans e h
  | 14, ⟨A, h⟩, _, e => ⟨A, Eq.trans e h⟩
  | 15, ⟨m, h, hs⟩, _, e => ⟨m, Eq.trans e h, hs⟩
  | 16, ⟨z, h, hz, m, hb⟩, hc, e => ⟨z, Eq.trans e h, hz, m, hb.chg (hc.resolve_left (by omega)) (fun h => h)⟩
  | 17, ⟨z, m, h, hz, hb, hs⟩, hc, e => ⟨z, m, Eq.trans e h, hz, hb.chg (hc.resolve_left (by omega)) (fun h => h), hs⟩
  | _ + 18, _, _, _ => trivial
structure I6 (b : Nat) (t0 : Array Value) (w0 : World) (n1 n2 n4 n5 n7 : Nat) (listed : Array Bool) (a : Act) (w : World) : Prop where
  ex : ∃ f, a = ⟨putAll t0 ds6 f, []⟩ ∧ ∀ i, i < 18 → listed.getD i false = true → OK6 b w0 n1 n2 n4 n5 n7 i f w
  chg : Chg (fun _ => False) w0 w
  last : listed.getD 17 false = true → ∀ i, i < 18 → listed.getD i false = true
def needs (o : Oper) (js : List Nat) : Bool := js.all fun j => o.after.any fun e => e.on == j && Region.binds .any e
theorem needs_spec {o : Oper} {js : List Nat} {listed : Array Bool} (h : needs o js = true) (ha : ∀ e ∈ o.after, Region.binds .any e = true → listed.getD e.on false = true) : ∀ j ∈ js, listed.getD j false = true := by
  intro j hj
  unfold needs at h
  rw [List.all_eq_true] at h
  have h1 := h j hj
  rw [Array.any_eq_true'] at h1
  obtain ⟨e, he, h2⟩ := h1
  rw [Bool.and_eq_true, beq_iff_eq] at h2
  rw [← h2.1]
  exact ha e he h2.2
/-- What the region's operations are. -/
def Kind6 (i : Nat) (o : Oper) : Prop :=
  match i with
  | 0 => o.guard = none ∧ o.dst = some 33 ∧ o.op = .move (.tmp 7)
  | 1 => o.guard = none ∧ o.dst = some 34 ∧ o.op = .call { callee := .value (.func 19), args := #[.tmp 33, .const (.int .i64 1)], argTypes := #[24, 3] } ∧ needs o [0] = true
  | 2 => o.guard = none ∧ o.dst = some 35 ∧ o.op = .makeSlice 32 (.tmp 34) (.tmp 34) ∧ needs o [1] = true
  | 3 => o.guard = none ∧ o.dst = some 36 ∧ o.op = .move (.tmp 7)
  | 4 => o.guard = none ∧ o.dst = some 37 ∧ o.op = .call { callee := .value (.func 19), args := #[.tmp 36, .const (.int .i64 2)], argTypes := #[24, 3] } ∧ needs o [3] = true
  | 5 => o.guard = none ∧ o.dst = some 38 ∧ o.op = .makeSlice 32 (.tmp 37) (.tmp 37) ∧ needs o [4] = true
  | 6 => o.guard = none ∧ o.dst = some 39 ∧ o.op = .move (.tmp 7)
  | 7 => o.guard = none ∧ o.dst = some 40 ∧ o.op = .call { callee := .value (.func 19), args := #[.tmp 39, .const (.int .i64 4)], argTypes := #[24, 3] } ∧ needs o [6] = true
  | 8 => o.guard = none ∧ o.dst = some 41 ∧ o.op = .makeSlice 86 (.tmp 40) (.tmp 40) ∧ needs o [7] = true
  | 9 => o.guard = none ∧ o.dst = some 42 ∧ o.op = .move (.tmp 7)
  | 10 => o.guard = none ∧ o.dst = some 43 ∧ o.op = .call { callee := .value (.func 19), args := #[.tmp 42, .const (.int .i64 5)], argTypes := #[24, 3] } ∧ needs o [9] = true
  | 11 => o.guard = none ∧ o.dst = some 44 ∧ o.op = .makeSlice 87 (.tmp 43) (.tmp 43) ∧ needs o [10] = true
  | 12 => o.guard = none ∧ o.dst = some 45 ∧ o.op = .move (.tmp 7)
  | 13 => o.guard = none ∧ o.dst = some 46 ∧ o.op = .call { callee := .value (.func 19), args := #[.tmp 45, .const (.int .i64 7)], argTypes := #[24, 3] } ∧ needs o [12] = true
  | 14 => o.guard = none ∧ o.dst = some 47 ∧ o.op = .makeSlice 88 (.tmp 46) (.tmp 46) ∧ needs o [13] = true
  | 15 => o.guard = none ∧ o.dst = some 48 ∧ o.op = .build 95 #[(0, .tmp 35), (2, .tmp 38), (4, .tmp 41), (5, .tmp 44), (7, .tmp 47)] ∧ needs o [2, 5, 8, 11, 14] = true
  | 16 => o.guard = none ∧ o.dst = some 9 ∧ o.op = .alloc 95
  | 17 => o.guard = none ∧ o.dst = none ∧ o.op = .store 95 (.tmp 9) (.tmp 48) ∧ needs o [0, 1, 2, 3, 4, 5, 6, 7, 8, 9, 10, 11, 12, 13, 14, 15, 16] = true
  | _ => False
theorem run_bd {a : Act} {o : Oper} {w : World} {A1 A2 A4 A5 A7 : Option Addr} {n1 n2 n4 n5 n7 : Nat} (h : o.op = .build 95 #[(0, .tmp 35), (2, .tmp 38), (4, .tmp 41), (5, .tmp 44), (7, .tmp 47)])
    (h1 : a.tmps[35]?.getD undef = .slice A1 n1 n1) (h2 : a.tmps[38]?.getD undef = .slice A2 n2 n2) (h4 : a.tmps[41]?.getD undef = .slice A4 n4 n4) (h5 : a.tmps[44]?.getD undef = .slice A5 n5 n5) (h7 : a.tmps[47]?.getD undef = .slice A7 n7 n7) :
    (execOp a.eval o).run Try.prog w = .ok (.value (modV ⟨A1, n1, n1, A2, n2, n2, A4, n4, n4, A5, n5, n5, A7, n7, n7⟩)) w := by
  unfold modV modA
  simp [execOp, h, h1, h2, h4, h5, h7, go_sem, Result.andThen]
section
variable {ops : Array Oper} {Q : Exit → Act → World → Prop} {b mb : Nat} {nv : Nat → Value} {l : List Nm.Stm} {t0 : Array Value} {w0 : World} {n1 n2 n4 n5 n7 : Nat} {listed : Array Bool} {a : Act} {w w' : World} {i : Nat} {o : Oper}
/-- One operation more. -/
theorem I6.next {f : Nat → Value} {v : Value} (hI : I6 b t0 w0 n1 n2 n4 n5 n7 listed a w) (hi : i < 17) (hu : listed.getD i true = false) (hsz : listed.size = 18) (hf : a = ⟨putAll t0 ds6 f, []⟩) (hok : ∀ i, i < 18 → listed.getD i false = true → OK6 b w0 n1 n2 n4 n5 n7 i f w)
    (hd : o.dst = some (dst6 i)) (hc : Chg (fun _ => False) w w') (hnew : OK6 b w0 n1 n2 n4 n5 n7 i (fun s => if s = dst6 i then v else f s) w') : I6 b t0 w0 n1 n2 n4 n5 n7 (listed.setIfInBounds i true) (a.put o.dst v) w' := by
  have hil : i < listed.size := by omega
  have h17 : listed.getD 17 false = false := by
    cases h : listed.getD 17 false with
    | false => rfl
    | true =>
      have h1 := hI.last h i (by omega)
      simp [hil] at h1 hu
      rw [h1] at hu; cases hu
  have hne : ∀ j, (listed.setIfInBounds i true).getD j false = true → j ≠ i → listed.getD j false = true := fun j hj hji => by
    rw [getD_set_ne false (fun e => hji e.symm)] at hj; exact hj
  refine ⟨⟨fun s => if s = dst6 i then v else f s, ?_, ?_⟩, Chg.trans hI.chg hc (fun _ _ h => h), ?_⟩
  · rw [hd, hf]
    unfold Act.put
    dsimp only
    rw [putAll_set]
    unfold dst6 ds6
    split
    · simp only [List.mem_cons, List.not_mem_nil, or_false]; omega
    · simp
  · intro j hj hl
    by_cases hji : j = i
    · subst hji; exact hnew
    · have hl' := hne j hl hji
      have hj17 : j ≠ 17 := by rintro rfl; rw [h17] at hl'; cases hl'
      refine (hok j hj hl').mono (.inr hc) (if_neg ?_)
      unfold dst6
      split <;> split <;> omega
  · intro h
    have := hne 17 h (by omega)
    rw [h17] at this; cases this
theorem slot6 {f : Nat → Value} (hf : a = ⟨putAll t0 ds6 f, []⟩) (ht : 60 ≤ t0.size) {s : Nat} (hs : s ∈ ds6) : a.tmps[s]?.getD undef = f s := by
  subst hf
  dsimp only
  have hlt : s < t0.size := by
    unfold ds6 at hs
    simp only [List.mem_cons, List.not_mem_nil, or_false] at hs
    omega
  rw [putAll_at ds6 t0 f s hs hlt]; rfl
theorem step6 (hk : Kind6 i o) (ho : ops[i]? = some o) (hsz : listed.size = 18) (ht : 60 ≤ t0.size) (h7 : t0[7]?.getD undef = .pointer (some ⟨b, 0, none⟩)) (hT : TAt w0 b mb nv l)
    (c1 : cntOf l 1 = (n1 : Int)) (c2 : cntOf l 2 = (n2 : Int)) (c4 : cntOf l 4 = (n4 : Int)) (c5 : cntOf l 5 = (n5 : Int)) (c7 : cntOf l 7 = (n7 : Int)) (b1 : n1 ≤ 1000) (b2 : n2 ≤ 1000) (b4 : n4 ≤ 1000) (b5 : n5 ≤ 1000) (b7 : n7 ≤ 1000)
    (hI : I6 b t0 w0 n1 n2 n4 n5 n7 listed a w) (hu : listed.getD i true = false) (ha : ∀ e ∈ o.after, Region.binds .any e = true → listed.getD e.on false = true) : wpOp Try.prog ops Q i (I6 b t0 w0 n1 n2 n4 n5 n7 (listed.setIfInBounds i true)) a w := by
  obtain ⟨f, hf, hok⟩ := hI.ex
  have e7 : a.eval (.tmp 7) = .pointer (some ⟨b, 0, none⟩) := by
    rw [hf]
    have h := putAll_far ds6 t0 f 7 (by decide)
    obtain ⟨T, hT2⟩ : ∃ T, T = putAll t0 ds6 f := ⟨_, rfl⟩
    rw [← hT2] at h ⊢
    rw [← h7, ← h]
    simp [Act.eval]
  match i, hk with
  | 0, ⟨hg, hd, hop⟩ =>
    exact wpOp_value ho hg (run_mv hop) (hI.next (i := 0) (by omega) hu hsz hf hok hd (Chg.refl _ _) ((if_pos rfl).trans e7))
  | 1, ⟨hg, hd, hop, hn⟩ =>
    have hx := hok 0 (by omega) (needs_spec hn ha 0 (by simp))
    refine wpOp_enter ho hg (run_cnt hop ((slot6 hf ht (by decide)).trans hx)) ((count_any w b mb nv l 1 (hT.quiet hI.chg)).mono ?_)
    rintro e w1 ⟨rfl, rfl⟩
    exact ⟨_, rfl, hI.next (i := 1) (by omega) hu hsz hf hok hd (Chg.refl _ _) ((if_pos rfl).trans (by rw [c1]))⟩
  | 2, ⟨hg, hd, hop, hn⟩ =>
    have hx := hok 1 (by omega) (needs_spec hn ha 1 (by simp))
    obtain ⟨i9, hi9, hz0, hz1, hz2⟩ := info_parts info9
    obtain ⟨A, w1, hr, hc⟩ := run_ms (w := w) hop ((slot6 hf ht (by decide)).trans hx) Try.underlying32 hi9 hz0 hz1 hz2 (by omega) b1
    exact wpOp_value ho hg hr (hI.next (i := 2) (by omega) hu hsz hf hok hd hc ⟨A, if_pos rfl⟩)
  | 3, ⟨hg, hd, hop⟩ =>
    exact wpOp_value ho hg (run_mv hop) (hI.next (i := 3) (by omega) hu hsz hf hok hd (Chg.refl _ _) ((if_pos rfl).trans e7))
  | 4, ⟨hg, hd, hop, hn⟩ =>
    have hx := hok 3 (by omega) (needs_spec hn ha 3 (by simp))
    refine wpOp_enter ho hg (run_cnt hop ((slot6 hf ht (by decide)).trans hx)) ((count_any w b mb nv l 2 (hT.quiet hI.chg)).mono ?_)
    rintro e w1 ⟨rfl, rfl⟩
    exact ⟨_, rfl, hI.next (i := 4) (by omega) hu hsz hf hok hd (Chg.refl _ _) ((if_pos rfl).trans (by rw [c2]))⟩
  | 5, ⟨hg, hd, hop, hn⟩ =>
    have hx := hok 4 (by omega) (needs_spec hn ha 4 (by simp))
    obtain ⟨i9, hi9, hz0, hz1, hz2⟩ := info_parts info9
    obtain ⟨A, w1, hr, hc⟩ := run_ms (w := w) hop ((slot6 hf ht (by decide)).trans hx) Try.underlying32 hi9 hz0 hz1 hz2 (by omega) b2
    exact wpOp_value ho hg hr (hI.next (i := 5) (by omega) hu hsz hf hok hd hc ⟨A, if_pos rfl⟩)
  | 6, ⟨hg, hd, hop⟩ =>
    exact wpOp_value ho hg (run_mv hop) (hI.next (i := 6) (by omega) hu hsz hf hok hd (Chg.refl _ _) ((if_pos rfl).trans e7))
  | 7, ⟨hg, hd, hop, hn⟩ =>
    have hx := hok 6 (by omega) (needs_spec hn ha 6 (by simp))
    refine wpOp_enter ho hg (run_cnt hop ((slot6 hf ht (by decide)).trans hx)) ((count_any w b mb nv l 4 (hT.quiet hI.chg)).mono ?_)
    rintro e w1 ⟨rfl, rfl⟩
    exact ⟨_, rfl, hI.next (i := 7) (by omega) hu hsz hf hok hd (Chg.refl _ _) ((if_pos rfl).trans (by rw [c4]))⟩
  | 8, ⟨hg, hd, hop, hn⟩ =>
    have hx := hok 7 (by omega) (needs_spec hn ha 7 (by simp))
    obtain ⟨i9, hi9, hz0, hz1, hz2⟩ := info_parts info170
    obtain ⟨A, w1, hr, hc⟩ := run_ms (w := w) hop ((slot6 hf ht (by decide)).trans hx) Try.underlying86 hi9 hz0 hz1 hz2 (by omega) b4
    exact wpOp_value ho hg hr (hI.next (i := 8) (by omega) hu hsz hf hok hd hc ⟨A, if_pos rfl⟩)
  | 9, ⟨hg, hd, hop⟩ =>
    exact wpOp_value ho hg (run_mv hop) (hI.next (i := 9) (by omega) hu hsz hf hok hd (Chg.refl _ _) ((if_pos rfl).trans e7))
  | 10, ⟨hg, hd, hop, hn⟩ =>
    have hx := hok 9 (by omega) (needs_spec hn ha 9 (by simp))
    refine wpOp_enter ho hg (run_cnt hop ((slot6 hf ht (by decide)).trans hx)) ((count_any w b mb nv l 5 (hT.quiet hI.chg)).mono ?_)
    rintro e w1 ⟨rfl, rfl⟩
    exact ⟨_, rfl, hI.next (i := 10) (by omega) hu hsz hf hok hd (Chg.refl _ _) ((if_pos rfl).trans (by rw [c5]))⟩
  | 11, ⟨hg, hd, hop, hn⟩ =>
    have hx := hok 10 (by omega) (needs_spec hn ha 10 (by simp))
    obtain ⟨i9, hi9, hz0, hz1, hz2⟩ := info_parts info172
    obtain ⟨A, w1, hr, hc⟩ := run_ms (w := w) hop ((slot6 hf ht (by decide)).trans hx) Try.underlying87 hi9 hz0 hz1 hz2 (by omega) b5
    exact wpOp_value ho hg hr (hI.next (i := 11) (by omega) hu hsz hf hok hd hc ⟨A, if_pos rfl⟩)
  | 12, ⟨hg, hd, hop⟩ =>
    exact wpOp_value ho hg (run_mv hop) (hI.next (i := 12) (by omega) hu hsz hf hok hd (Chg.refl _ _) ((if_pos rfl).trans e7))
  | 13, ⟨hg, hd, hop, hn⟩ =>
    have hx := hok 12 (by omega) (needs_spec hn ha 12 (by simp))
    refine wpOp_enter ho hg (run_cnt hop ((slot6 hf ht (by decide)).trans hx)) ((count_any w b mb nv l 7 (hT.quiet hI.chg)).mono ?_)
    rintro e w1 ⟨rfl, rfl⟩
    exact ⟨_, rfl, hI.next (i := 13) (by omega) hu hsz hf hok hd (Chg.refl _ _) ((if_pos rfl).trans (by rw [c7]))⟩
  | 14, ⟨hg, hd, hop, hn⟩ =>
    have hx := hok 13 (by omega) (needs_spec hn ha 13 (by simp))
    obtain ⟨i9, hi9, hz0, hz1, hz2⟩ := info_parts info174
    obtain ⟨A, w1, hr, hc⟩ := run_ms (w := w) hop ((slot6 hf ht (by decide)).trans hx) Try.underlying88 hi9 hz0 hz1 hz2 (by omega) b7
    exact wpOp_value ho hg hr (hI.next (i := 14) (by omega) hu hsz hf hok hd hc ⟨A, if_pos rfl⟩)
  | 15, ⟨hg, hd, hop, hn⟩ =>
    obtain ⟨A1, x1⟩ := hok 2 (by omega) (needs_spec hn ha 2 (by simp))
    obtain ⟨A2, x2⟩ := hok 5 (by omega) (needs_spec hn ha 5 (by simp))
    obtain ⟨A4, x4⟩ := hok 8 (by omega) (needs_spec hn ha 8 (by simp))
    obtain ⟨A5, x5⟩ := hok 11 (by omega) (needs_spec hn ha 11 (by simp))
    obtain ⟨A7, x7⟩ := hok 14 (by omega) (needs_spec hn ha 14 (by simp))
    exact wpOp_value ho hg (run_bd hop ((slot6 hf ht (by decide)).trans x1) ((slot6 hf ht (by decide)).trans x2) ((slot6 hf ht (by decide)).trans x4) ((slot6 hf ht (by decide)).trans x5) ((slot6 hf ht (by decide)).trans x7))
      (hI.next (i := 15) (by omega) hu hsz hf hok hd (Chg.refl _ _) ⟨_, if_pos rfl, ⟨rfl, rfl, rfl, rfl, rfl⟩⟩)
  | 16, ⟨hg, hd, hop⟩ =>
    exact wpOp_value ho hg (run_al hop) (hI.next (i := 16) (by omega) hu hsz hf hok hd ((Chg.refl _ _).alloc _) ⟨w.heap.size, if_pos rfl, hI.chg.size, emp0, Blk.new _ _ _⟩)
  | 17, ⟨hg, hd, hop, hn⟩ =>
    have hall := needs_spec hn ha
    obtain ⟨m, x48, hs⟩ := hok 15 (by omega) (hall 15 (by simp))
    obtain ⟨z, x9, hz, m0, hb⟩ := hok 16 (by omega) (hall 16 (by simp))
    obtain ⟨w1, hr, hb1, hc1⟩ := run_st hop ((slot6 hf ht (by decide)).trans x9) ((slot6 hf ht (by decide)).trans x48) hb
    have hall' : ∀ j, j < 18 → (listed.setIfInBounds 17 true).getD j false = true := fun j hj => by
      by_cases h : j = 17
      · subst h; simp [hsz]
      · rw [getD_set_ne false (fun e => h e.symm)]
        exact hall j (by simp only [List.mem_cons, List.not_mem_nil, or_false]; omega)
    refine wpOp_skip ho hg hr ⟨⟨f, by rw [hd]; exact hf, ?_⟩, Chg.trans hI.chg hc1 (fun k hk e => by omega), fun _ => hall'⟩
    intro j hj hl
    by_cases h : j = 17
    · subst h; exact ⟨z, m, x9, hz, hb1, hs⟩
    · by_cases h16 : j = 16
      · subst h16; exact ⟨z, x9, hz, m, hb1⟩
      · exact (hok j hj (by rw [getD_set_ne false (fun e => h e.symm)] at hl; exact hl)).mono (.inl (by omega)) rfl
end
def laterB (ops : Array Oper) : Bool := (List.range ops.size).all fun i => match ops[i]? with
  | some o => o.after.all fun e => decide (e.on < i)
  | none => true
theorem laterB_spec {ops : Array Oper} (h : laterB ops = true) (i : Nat) (o : Oper) (ho : ops[i]? = some o) : ∀ e ∈ o.after, e.on < i := by
  intro e he
  unfold laterB at h
  rw [List.all_eq_true] at h
  have h1 := h i (List.mem_range.2 (Array.getElem?_eq_some_iff.1 ho).1)
  rw [ho] at h1
  dsimp only at h1
  rw [Array.all_eq_true_iff_forall_mem] at h1
  exact of_decide_eq_true (h1 e he)
/-- The region, walked in whatever order. -/
theorem region6 {id : Nat} {ops : Array Oper} {Q : Exit → Act → World → Prop} {b mb : Nat} {nv : Nat → Value} {l : List Nm.Stm} {t0 : Array Value} {w0 : World} {n1 n2 n4 n5 n7 : Nat} (hm : Try.prog.follows .mixedOrders = true) (hs : ops.size = 18) (hlt : laterB ops = true)
    (hk : ∀ (i : Nat) o, i < 18 → ops[i]? = some o → Kind6 i o) (ht : 60 ≤ t0.size) (h7 : t0[7]?.getD undef = .pointer (some ⟨b, 0, none⟩)) (hT : TAt w0 b mb nv l)
    (c1 : cntOf l 1 = (n1 : Int)) (c2 : cntOf l 2 = (n2 : Int)) (c4 : cntOf l 4 = (n4 : Int)) (c5 : cntOf l 5 = (n5 : Int)) (c7 : cntOf l 7 = (n7 : Int)) (b1 : n1 ≤ 1000) (b2 : n2 ≤ 1000) (b4 : n4 ≤ 1000) (b5 : n5 ≤ 1000) (b7 : n7 ≤ 1000)
    (done : ∀ f w z m, f 9 = .pointer (some ⟨z, 0, none⟩) → w0.heap.size ≤ z → Blk w z 95 (modA m) → Szd m n1 n2 n4 n5 n7 → Chg (fun _ => False) w0 w → Q .normal ⟨putAll t0 ds6 f, []⟩ w) : (Code.region id ops true).wp Try.prog Q ⟨t0, []⟩ w0 := by
  refine wp_region_any hm (wpAny_inv (I := fun listed a w => listed.size = 18 ∧ I6 b t0 w0 n1 n2 n4 n5 n7 listed a w) (laterB_spec hlt) ?_ ?_ _ _ _ _ (by simp) ?_ ⟨by simp [hs], ?_⟩)
  · rintro listed a w ⟨hsz, hI⟩ i o ho hu ha
    have hi : i < 18 := by rw [← hs]; exact (Array.getElem?_eq_some_iff.1 ho).1
    exact wpOp_mono (fun a' w' h => ⟨by simpa using hsz, h⟩) (step6 (hk i o hi ho) ho hsz ht h7 hT c1 c2 c4 c5 c7 b1 b2 b4 b5 b7 hI hu ha)
  · rintro listed a w ⟨hsz, hI⟩ hall
    obtain ⟨f, rfl, hok⟩ := hI.ex
    obtain ⟨z, m, h9, hz, hb, hsd⟩ := hok 17 (by omega) (hall 17 (by omega))
    exact done f w z m h9 hz hb hsd hI.chg
  · rw [Array.toList_replicate, List.count_replicate_self]
    exact Nat.le_refl _
  · refine ⟨⟨fun s => t0.getD s undef, by rw [putAll_same], fun i hi h => ?_⟩, (Chg.refl _ _).drew, fun h => ?_⟩
    · simp [hs, hi] at h
    · simp [hs] at h
end Go.Proofs.Ytpppgnphblbbcaa
