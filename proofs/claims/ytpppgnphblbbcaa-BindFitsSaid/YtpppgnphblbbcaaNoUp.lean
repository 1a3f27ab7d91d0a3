/- What a formula's rounds leave: plain, with the signs of a formula. -/
import Derived.Test.YtpppgnphblbbcaaNoPop
import Derived.Test.YtpppgnphblbbcaaTrPart
namespace Go.Proofs.Ytpppgnphblbbcaa
open Go.RowKit

def toItem (x : Nm.Inst) : Nm.Item := ⟨x.op, ⟨#[]⟩, 0, ⟨#[]⟩, 0, ⟨#[]⟩, ⟨#[]⟩, 0, 0⟩
def sgI (f : List Nm.Inst) : Nat → Int := sg (f.map toItem)
theorem sgI_at {f : List Nm.Inst} {i : Nat} {x : Nm.Inst} (h : f[i]? = some x) : sgI f i = x.op := by
  unfold sgI
  exact sg_at (x := toItem x) (by rw [List.getElem?_map, h]; rfl)
structure UpI (f : List Nm.Inst) (j : Nat) : Prop where
  run : ∃ t, Tr.run (sgI f) j = some t ∧ t.length = (No.upTo f j).2.length
  inv : No.Inv (No.upTo f j).1
  ok : ∀ a ∈ (No.upTo f j).2, 0 ≤ a ∧ a < (No.upTo f j).1.length
  few : (No.upTo f j).1.length ≤ 8 * j
/-- One round: what is done. -/
def RndC (f : List Nm.Inst) (j : Nat) (x : Nm.Inst) : Prop :=
  (Tr.arity x.op = 1 ∧ ∃ a r, (No.upTo f j).2 = a :: r ∧ (0 ≤ a ∧ a < (No.upTo f j).1.length) ∧ No.upTo f (j + 1) = ((No.one (No.upTo f j).1 x.op a).1, (No.one (No.upTo f j).1 x.op a).2 :: r)) ∨
  (Tr.arity x.op = 2 ∧ ∃ b a r, (No.upTo f j).2 = b :: a :: r ∧ (0 ≤ a ∧ a < (No.upTo f j).1.length) ∧ (0 ≤ b ∧ b < (No.upTo f j).1.length) ∧ No.upTo f (j + 1) = ((No.two (No.upTo f j).1 x.op a b).1, (No.two (No.upTo f j).1 x.op a b).2 :: r)) ∨
  (Tr.arity x.op = 0 ∧ (1 ≤ x.op ∧ x.op ≤ 14) ∧ No.upTo f (j + 1) = ((No.put (No.upTo f j).1 (No.atomS x)).1, (No.put (No.upTo f j).1 (No.atomS x)).2 :: (No.upTo f j).2))
theorem arity0 {op : Int} (h : Tr.arity op = 0) : 1 ≤ op ∧ op ≤ 14 := by
  unfold Tr.arity at h
  split at h
  · assumption
  · split at h
    · omega
    · split at h <;> omega
theorem run_some {f : Nat → Int} {n : Nat} (hc : Tr.check f n = 0) {j : Nat} (hj : j ≤ n) : ∃ t, Tr.run f j = some t := by
  obtain ⟨_, _, hb⟩ := Tr.check_zero.1 hc
  obtain ⟨t, ht⟩ := (Tr.form_iff n).1 hb
  cases h : Tr.run f j with
  | some r => exact ⟨r, rfl⟩
  | none => rw [run_none h n hj] at ht; cases ht
theorem up_step {f : List Nm.Inst} (hc : Tr.check (sgI f) f.length = 0) {j : Nat} {x : Nm.Inst} (hx : f[j]? = some x) (hok : No.okI x) (h : UpI f j) : RndC f j x ∧ UpI f (j + 1) := by
  have hjl : j < f.length := (List.getElem?_eq_some_iff.1 hx).1
  obtain ⟨_, hn64, _⟩ := Tr.check_zero.1 hc
  obtain ⟨t, ht, hlen⟩ := h.run
  obtain ⟨t2, ht2⟩ := run_some hc (j := j + 1) (by omega)
  have hr := Tr.run_succ (f := sgI f) j
  rw [ht, ht2, sgI_at hx] at hr
  dsimp only at hr
  have hup := No.upTo_succ hx
  have hfew := h.few
  obtain ⟨L, hL⟩ : ∃ L, L = (No.upTo f j).1 := ⟨_, rfl⟩
  obtain ⟨row, hrow⟩ : ∃ row, row = (No.upTo f j).2 := ⟨_, rfl⟩
  have hinv := h.inv
  have hokk := h.ok
  unfold RndC
  rw [← hL, ← hrow] at hup
  rw [← hL] at hinv hfew
  rw [← hL, ← hrow] at hokk
  rw [← hrow] at hlen
  rw [← hL, ← hrow]
  clear hL hrow h
  unfold Tr.push at hr
  unfold No.rnd at hup
  rcases Tr.arity_range x.op with h1 | h1 | h1 | h1
  · rw [h1] at hr; simp at hr
  · rw [h1] at hr hup
    simp only [Int.reduceEq, if_false] at hup
    simp only [if_true] at hr
    injection hr with hr
    have g := No.put_gr hinv (s := No.atomS x) (.inl (arity0 h1)) ⟨hok.1, by unfold No.inR; simp only [No.atomS]; omega, by unfold No.inR; simp only [No.atomS]; omega, hok⟩
    refine ⟨.inr (.inr ⟨h1, arity0 h1, hup⟩), ⟨⟨t2, ht2, ?_⟩, ?_, ?_, ?_⟩⟩
    · rw [hup, hr]; simp [hlen]
    · rw [hup]; exact g.inv
    · rw [hup]
      intro a ha
      rcases List.mem_cons.1 ha with rfl | ha
      · exact g.res
      · exact g.in1 (hokk a ha)
    · rw [hup]; have := g.few; show (No.put L (No.atomS x)).1.length ≤ _; omega
  · rw [h1] at hr hup
    simp only [Int.reduceEq, if_false, if_true] at hr hup
    match t, row, hlen, hr, hup, hokk with
    | y :: t', a :: r, hlen, hr, hup, hokk =>
      dsimp only at hr hup
      injection hr with hr
      have ha := hokk a (by simp)
      have g := No.one_gr (op := x.op) hinv (by omega) ha
      refine ⟨.inl ⟨h1, a, r, rfl, ha, hup⟩, ⟨⟨t2, ht2, ?_⟩, ?_, ?_, ?_⟩⟩
      · rw [hup, hr]; simpa using hlen
      · rw [hup]; exact g.inv
      · rw [hup]
        intro c hcc
        rcases List.mem_cons.1 hcc with rfl | hcc
        · exact g.res
        · exact g.in1 (hokk c (List.mem_cons_of_mem _ hcc))
      · rw [hup]; have := g.few; show (No.one L x.op a).1.length ≤ _; omega
    | [], _, _, hr, _, _ => simp at hr
    | y :: t', [], hlen, _, _, _ => simp at hlen
  · rw [h1] at hr hup
    simp only [Int.reduceEq, if_false, if_true] at hr hup
    match t, row, hlen, hr, hup, hokk with
    | y :: z :: t', b :: a :: r, hlen, hr, hup, hokk =>
      dsimp only at hr hup
      injection hr with hr
      have hb := hokk b (by simp)
      have ha := hokk a (by simp)
      have g := No.two_gr (op := x.op) hinv (by omega) ha hb
      refine ⟨.inr (.inl ⟨h1, b, a, r, rfl, ha, hb, hup⟩), ⟨⟨t2, ht2, ?_⟩, ?_, ?_, ?_⟩⟩
      · rw [hup, hr]; simpa using hlen
      · rw [hup]; exact g.inv
      · rw [hup]
        intro c hcc
        rcases List.mem_cons.1 hcc with rfl | hcc
        · exact g.res
        · exact g.in1 (hokk c (by simp [hcc]))
      · rw [hup]; have := g.few; show (No.two L x.op a b).1.length ≤ _; omega
    | [], _, _, hr, _, _ => simp at hr
    | [y], _, _, hr, _, _ => simp at hr
    | y :: z :: t', [], hlen, _, _, _ => simp at hlen
    | y :: z :: t', [b], hlen, _, _, _ => simp at hlen
theorem up_all {f : List Nm.Inst} (hc : Tr.check (sgI f) f.length = 0) (hok : ∀ x ∈ f, No.okI x) : ∀ j, j ≤ f.length → UpI f j
  | 0, _ => ⟨⟨[], rfl, rfl⟩, No.inv_nil, fun a ha => absurd ha (by simp [No.upTo]), Nat.zero_le _⟩
  | j + 1, hj => by
    obtain ⟨x, hx⟩ : ∃ x, f[j]? = some x := ⟨_, List.getElem?_eq_getElem (by omega)⟩
    exact (up_step hc hx (hok x (List.mem_of_getElem? hx)) (up_all hc hok j (by omega))).2
theorem up_rnd {f : List Nm.Inst} (hc : Tr.check (sgI f) f.length = 0) (hok : ∀ x ∈ f, No.okI x) {j : Nat} {x : Nm.Inst} (hx : f[j]? = some x) : RndC f j x :=
  (up_step hc hx (hok x (List.mem_of_getElem? hx)) (up_all hc hok j (Nat.le_of_lt (List.getElem?_eq_some_iff.1 hx).1))).1
theorem up_end {f : List Nm.Inst} (hc : Tr.check (sgI f) f.length = 0) (hok : ∀ x ∈ f, No.okI x) : ∃ n, (No.upTo f f.length).2 = [n] ∧ 0 ≤ n ∧ n < (No.upTo f f.length).1.length := by
  have h := up_all hc hok f.length (Nat.le_refl _)
  obtain ⟨t, ht, hlen⟩ := h.run
  obtain ⟨_, _, hb⟩ := Tr.check_zero.1 hc
  obtain ⟨u, hu⟩ := (Tr.form_iff f.length).1 hb
  rw [ht] at hu
  injection hu with hu
  rw [hu] at hlen
  match hrow : (No.upTo f f.length).2, hlen with
  | [n], _ => exact ⟨n, rfl, h.ok n (by rw [hrow]; simp)⟩
end Go.Proofs.Ytpppgnphblbbcaa
