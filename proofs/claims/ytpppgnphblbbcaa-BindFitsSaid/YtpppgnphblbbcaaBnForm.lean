/- The walk of bind's Formula. -/
import Derived.Test.YtpppgnphblbbcaaBnOne
import Derived.Test.YtpppgnphblbbcaaArgs
namespace Go.Proofs.Ytpppgnphblbbcaa
open Go.RowKit

def itemC (x : Nm.Item) : List Value := (itemA x).toList
def cellsI (f : List Nm.Item) : List Value := f.flatMap itemC
theorem itemC_len (x : Nm.Item) : (itemC x).length = 9 := rfl
def instC (l : List Nm.Stm) (x : Nm.Item) : List Value := (instA (Nm.instV l x)).toList
theorem instC_len (l : List Nm.Stm) (x : Nm.Item) : (instC l x).length = 7 := rfl
/-- A slice of items, at its address: each cell of each. -/
theorem item_at {w : World} {B : Nat} {A : Option Addr} {f : List Nm.Item} (h : Rd w B A (cellsI f)) {i : Nat} {x : Nm.Item} (hi : f[i]? = some x) : ∃ b o, A = some ⟨b, o, none⟩ ∧ b < B ∧
    w.cell? ⟨b, o + i * 9, none⟩ = some (.int .i64 x.op) ∧ w.cell? ⟨b, o + i * 9 + 1, none⟩ = some (.string x.ln) ∧ w.cell? ⟨b, o + i * 9 + 2, none⟩ = some (.int .i64 x.lnum) ∧ w.cell? ⟨b, o + i * 9 + 3, none⟩ = some (.string x.rn) ∧ w.cell? ⟨b, o + i * 9 + 4, none⟩ = some (.int .i64 x.rnum) ∧
    w.cell? ⟨b, o + i * 9 + 5, none⟩ = some (.string x.name) ∧ w.cell? ⟨b, o + i * 9 + 6, none⟩ = some (.string x.user) ∧ w.cell? ⟨b, o + i * 9 + 7, none⟩ = some (.int .i64 x.line) ∧ w.cell? ⟨b, o + i * 9 + 8, none⟩ = some (.int .i64 x.col) := by
  obtain ⟨hil, rfl⟩ := List.getElem?_eq_some_iff.1 hi
  have hlen : (cellsI f).length = f.length * 9 := flat_len itemC itemC_len f
  obtain ⟨b, o, hA, hb, hc⟩ := h.plain (by rw [hlen]; omega)
  have key : ∀ r u, r < 9 → (itemC f[i])[r]? = some u → w.cell? ⟨b, o + i * 9 + r, none⟩ = some u := fun r u hr hu => by
    have := hc (i * 9 + r) u (by rw [← hu]; exact flat_get itemC itemC_len f i r hil hr)
    rwa [← Nat.add_assoc] at this
  exact ⟨b, o, hA, hb, key 0 _ (by omega) rfl, key 1 _ (by omega) rfl, key 2 _ (by omega) rfl, key 3 _ (by omega) rfl, key 4 _ (by omega) rfl, key 5 _ (by omega) rfl, key 6 _ (by omega) rfl, key 7 _ (by omega) rfl, key 8 _ (by omega) rfl⟩
theorem inst_info : (Try.prog.info? 77).map (fun i => (i.zero, i.size, i.bytes)) = some (some (.agg #[.int .i64 0, .int .i64 0, .int .i64 0, .int .i64 0, .int .i64 0, .int .i64 0, .int .i64 0]), 7, 56) := by kernel_rfl
theorem all_new {w : World} {g : Nat} {t : TypeId} {cs : Array Value} (h : Blk w g t cs) : ∀ j u, cs.toList[j]? = some u → w.cell? ((⟨g, 0, none⟩ : Addr).add j) = some u := fun j u hu => by
  rw [add_row, Nat.zero_add, h.cell]; simpa using hu

theorem own_blk {w : World} {base size n : Nat} {e : TypeId} {v : Value} {xs : List Value} (h : w.ownsRow base e size v n xs) {g : Nat} (hg : v.ownBlock = some g) : ∃ cur, Blk w g e cur := by
  rcases h.2 with ⟨rfl, _⟩ | ⟨g', cap, cur, rfl, _, hh, _⟩
  · simp [Value.ownBlock] at hg
  · simp only [Value.ownBlock, Option.some.injEq] at hg
    subst hg
    exact ⟨cur, hh⟩
theorem TAt.ne_own {w : World} {b mb : Nat} {nv : Nat → Value} {l : List Nm.Stm} (h : TAt w b mb nv l) {base size n : Nat} {e : TypeId} {v : Value} {xs : List Value} (ho : w.ownsRow base e size v n xs) (h1 : e ≠ 102) (h2 : e ≠ 9) {g : Nat} (hg : v.ownBlock = some g) : ¬ TFoot b mb nv g := by
  obtain ⟨cur, hB⟩ := own_blk ho hg
  exact h.ne_blk hB h1 h2
/-- In the loop of Formula: what is made of the items so far. -/
structure Forming (w : World) (bb b mb : Nat) (nv : Nat → Value) (l : List Nm.Stm) (f : List Nm.Item) (j : Nat) (v : Value) (wr : World) : Prop where
  res : Res0 wr w.heap.size
  bind : Blk wr bb 111 #[needFn b, .int .i64 0]
  tab : TAt wr b mb nv l
  chg : Chg (fun _ => False) w wr
  own : wr.ownsRow w.heap.size 77 7 v j ((f.take j).flatMap (instC l))
  good : ∀ (i : Nat) x, i < j → f[i]? = some x → Nm.instE l x = 0
  hbb : w.heap.size < bb

/-- What Formula hands back. -/
def Formed (w w' : World) (l : List Nm.Stm) (f : List Nm.Item) (v : Value) : Prop :=
  ((Nm.fault l f).1 ≠ 0 ∧ v = .slice none 0 0) ∨ (Nm.fault l f = (0, 0, 0) ∧ w'.ownsRow w.heap.size 77 7 v f.length (f.flatMap (instC l)))
def Sized (f : List Nm.Item) : Prop := ∀ x ∈ f, x.ln.size ≤ maxLen ∧ x.rn.size ≤ maxLen ∧ x.name.size ≤ maxLen ∧ x.user.size ≤ maxLen

set_option maxRecDepth 100000 in
set_option maxHeartbeats 2000000 in
theorem formula_any (w : World) (b mb : Nat) (nv : Nat → Value) (l : List Nm.Stm) (A : Option Addr) (n c : Nat) (f : List Nm.Item) (hn : n = f.length) (hl : f.length ≤ 1000) (hr : Rd w w.heap.size A (cellsI f)) (hz : Sized f) (hT : TAt w b mb nv l) :
    Calls Try.prog 27 #[.pointer (some ⟨b, 0, none⟩), .slice A n c] w fun e w' => ∃ v, e = .returned (.tuple #[v, faultV (Nm.fault l f)]) ∧ Formed w w' l f v ∧ Chg (fun _ => False) w w' := by
  subst hn
  have HR := Lib.hid hr
  have HZ := Lib.hid hz
  have HT := Lib.hid hT
  clear hr hz hT
  have hmf : ∀ (fn : Fn) (first cap : Array Value) (w : World), (Instr.makeFunc fn first cap).run Try.prog w = .ok (.func fn first cap) w := fun _ _ _ _ => rfl
  obtain ⟨i77, hi77, hz0, hz1, hz2⟩ := info_parts inst_info
  go_enter Try.func27, Try.ntmps27
  go_wp2
  have hF : Hid (Forming w (w.heap.size + 1) b mb nv l f 0 (.slice none 0 0) ((w.alloc (.cells #[.int .i64 0, .int .i64 0, .int .i64 0] 29)).alloc (.cells #[.func (.func 22) #[.pointer (some ⟨b, 0, none⟩)] #[], .int .i64 0] 111))) :=
    ⟨(Blk.new w 29 #[.int .i64 0, .int .i64 0, .int .i64 0]).alloc _, blk_new2 _ _ _ _, HT.out.quiet (((Chg.refl _ w).alloc _).alloc _), ((Chg.refl _ w).alloc _).alloc _, World.ownsRow_nil _ _ _ _, fun i x hi => by omega, by omega⟩
  obtain ⟨w0, hw0⟩ : ∃ w0, w0 = (w.alloc (.cells #[.int .i64 0, .int .i64 0, .int .i64 0] 29)).alloc (.cells #[.func (.func 22) #[.pointer (some ⟨b, 0, none⟩)] #[], .int .i64 0] 111) := ⟨_, rfl⟩
  obtain ⟨bb, hbb⟩ : ∃ bb, bb = w.heap.size + 1 := ⟨_, rfl⟩
  rw [← hw0, ← hbb] at hF ⊢
  clear hw0 hbb hmf HT
  go_loopw [16, 7] (fun i v wr => ∃ j : Nat, j ≤ f.length ∧ i = .int .i64 j ∧ Hid (Forming w bb b mb nv l f j v wr)) (fun i _ _ => f.length - (intOf i).toNat)
  case atStart => exact ⟨0, Nat.zero_le _, rfl, hF⟩
  case round =>
    obtain ⟨j, hj, rfl, hM⟩ := hrel
    clear hF
    by_cases hlt : j < f.length
    · obtain ⟨x, hx⟩ : ∃ x, f[j]? = some x := ⟨_, List.getElem?_eq_getElem hlt⟩
      obtain ⟨xb, o, hA, hxb, c0, c1, c2, c3, c4, c5, c6, c7, c8⟩ := item_at (HR.out.chg hM.out.chg (Nat.le_refl _) (fun _ h => h.elim)) hx
      subst hA
      have HX := Lib.hid hx
      have HS := Lib.hid (HZ.out x (List.mem_of_getElem? hx))
      clear hx
      go_wp2_with fail
      have hX := Blk.new wr 70 #[.int .i64 x.op, .string x.ln, .int .i64 x.lnum, .string x.rn, .int .i64 x.rnum, .string x.name, .string x.user, .int .i64 x.line, .int .i64 x.col]
      have hC1 := (Chg.refl (fun _ => False) wr).alloc (.cells #[.int .i64 x.op, .string x.ln, .int .i64 x.lnum, .string x.rn, .int .i64 x.rnum, .string x.name, .string x.user, .int .i64 x.line, .int .i64 x.col] 70)
      obtain ⟨w1, hw1⟩ : ∃ w1, w1 = wr.alloc (.cells #[.int .i64 x.op, .string x.ln, .int .i64 x.lnum, .string x.rn, .int .i64 x.rnum, .string x.name, .string x.user, .int .i64 x.line, .int .i64 x.col] 70) := ⟨_, rfl⟩
      obtain ⟨gx, hgx⟩ : ∃ gx, gx = wr.heap.size := ⟨_, rfl⟩
      rw [← hw1] at hX hC1 ⊢
      rw [← hgx] at hX ⊢
      clear hw1 c0 c1 c2 c3 c4 c5 c6 c7 c8
      refine (inst_any w1 bb b mb nv l x HS.out (hM.out.bind.chg hC1 (fun h => h)) (hM.out.tab.quiet hC1)).mono ?_
      rintro e w2 ⟨rfl, hb⟩
      have hC2 : Chg (fun k => k = bb) wr w2 := Chg.trans (hC1.mono (T := fun k => k = bb) (fun _ _ h => h.elim)) hb.1 (fun _ _ h => h)
      have X2 := Lib.hid (hX.chg hb.1 (Blk.ne_ hX (hM.out.bind.chg hC1 (fun h => h)) (by decide)))
      have R2 := Lib.hid (hM.out.res.chg hC2 (Blk.ne_ hM.out.res hM.out.bind (by decide)))
      have B2 := Lib.hid hb.2
      have T2 := Lib.hid (hM.out.tab.chg hC2 (fun k hk e => hM.out.tab.ne_blk hM.out.bind (by decide) (by decide) (e ▸ hk)))
      have C2 : Hid (Chg (fun _ => False) w w2) := Chg.trans hM.out.chg hC2 (fun i hi e => by have := hM.out.hbb; omega)
      have O2 := Lib.hid (own_chg hM.out.own hC2 (fun g hg e => own_blk_ne hM.out.own hM.out.bind (by decide) (e ▸ hg)))
      have G2 := Lib.hid hM.out.good
      have HBB := Lib.hid hM.out.hbb
      obtain ⟨ie, hie⟩ : ∃ ie, ie = Nm.instE l x := ⟨_, rfl⟩
      have HIE := Lib.hid hie
      rw [← hie] at B2
      obtain ⟨iv, hiv⟩ : ∃ iv, iv = Nm.instV l x := ⟨_, rfl⟩
      have HIV : Hid (instC l x = (instA iv).toList) := by show _ = _; rw [hiv]; rfl
      rw [← hiv]
      clear hX hC1 hb hC2 hM hie hiv hgx
      unfold instA at HIV ⊢
      dsimp only at HIV ⊢
      have hsz := C2.out.size
      have hj2 : j < 1000 := by omega
      by_cases hie0 : ie = 0
      · subst hie0
        go_wp2_with (at_builtin; refine wpList_append_lies _ rfl (.tmp 20) (.tmp 24) 49 rfl w.heap.size 77 i77 _ 7 56 Try.underlying49 hi77 hz0 hz1 hz2 rfl (by omega) u7 j ((f.take j).flatMap (instC l)) rfl (by exact World.ownsRow.alloc (w := w2) O2.out _) ⟨w2.heap.size, 0, none⟩ 1 1 (instC l x) rfl rfl (by rw [HIV.out]; exact all_new (Blk.new w2 77 #[.int .i64 iv.op, .int .i64 iv.la, .int .i64 iv.lnum, .int .i64 iv.ra, .int .i64 iv.rnum, .int .i64 iv.n, .int .i64 iv.user])) (by rw [HIV.out]; intro u hu; simp at hu; rcases hu with rfl | rfl | rfl | rfl | rfl | rfl | rfl <;> rfl) (by omega) (by unfold maxLen; omega) (by omega) (by simp; omega) (w2.heap.size + 1) (by simp) ?_; intro g cap w3 hown3 hg3 hat3 hlt3; have HK := Lib.hid (fun (k : Nat) (t : TypeId) (cs : Array Value) (hB : Blk w2 k t cs) (ht : (77 : TypeId) ≠ t) => (hB.alloc _).grown hg3 (Ne.symm (own_blk_ne (w := w2) O2.out hB ht))); have C3 : Hid (Chg (fun _ => False) w w3) := (Chg.trans C2.out (Chg.grown (S := fun k => Value.ownBlock u7 = some k) ((Chg.refl _ w2).alloc _) hg3 (fun k hk => .inl hk)) (fun i hi e => by have := (O2.out.lt i e).1; omega)); have C23 : Hid (Chg (fun k => Value.ownBlock u7 = some k) w2 w3) := (Chg.grown (S := fun k => Value.ownBlock u7 = some k) ((Chg.refl _ w2).alloc _) hg3 (fun k hk => .inl hk)); have HO3 := Lib.hid hown3; have R3 : Hid (Res0 w3 w.heap.size) := (HK.out _ _ _ R2.out (by decide)); have B3 := Lib.hid (HK.out _ _ _ B2.out (by decide)); have X3 := Lib.hid (HK.out _ _ _ X2.out (by decide)); have b1 : w3.cell? ⟨bb, 1, none⟩ = some (.int .i64 0) := (by rw [B3.out.cell]; rfl); have x7 : w3.cell? ⟨gx, 7, none⟩ = some (.int .i64 x.line) := (by rw [X3.out.cell]; rfl); have x8 : w3.cell? ⟨gx, 8, none⟩ = some (.int .i64 x.col) := (by rw [X3.out.cell]; rfl); obtain ⟨d0, d1, d2, g0, g1, g2, hwlt⟩ := res0_cells R3.out; clear hown3 hg3 hat3 hlt3 HK)
        go_roundw
        case rel => 
          refine ⟨j + 1, by omega, by go_num, ?_⟩
          have htk : f.take (j + 1) = f.take j ++ [x] := by
            obtain ⟨h1, h2⟩ := List.getElem?_eq_some_iff.1 HX.out
            rw [List.take_succ_eq_append_getElem h1, h2]
          refine ⟨R3.out, B3.out, T2.out.chg C23.out (fun k hk e => ?_), C3.out, ?_, fun i y hi hy => ?_, HBB.out⟩
          · exact T2.out.ne_own O2.out (by decide) (by decide) e hk
          · rw [htk, List.flatMap_append]
            simpa using HO3.out
          · rcases Nat.lt_or_ge i j with h | h
            · exact G2.out i y h hy
            · obtain rfl : i = j := by omega
              rw [HX.out] at hy
              injection hy with hy
              subst hy
              exact HIE.out.symm
        case measure => simp [intOf]; omega
      · have hkz : (ie != 0) = true := by simpa using hie0
        have hie0 := Lib.hid hie0
        go_wp2_with (at_builtin; refine wpList_append_lies _ rfl (.tmp 20) (.tmp 24) 49 rfl w.heap.size 77 i77 _ 7 56 Try.underlying49 hi77 hz0 hz1 hz2 rfl (by omega) u7 j ((f.take j).flatMap (instC l)) rfl (by exact World.ownsRow.alloc (w := w2) O2.out _) ⟨w2.heap.size, 0, none⟩ 1 1 (instC l x) rfl rfl (by rw [HIV.out]; exact all_new (Blk.new w2 77 #[.int .i64 iv.op, .int .i64 iv.la, .int .i64 iv.lnum, .int .i64 iv.ra, .int .i64 iv.rnum, .int .i64 iv.n, .int .i64 iv.user])) (by rw [HIV.out]; intro u hu; simp at hu; rcases hu with rfl | rfl | rfl | rfl | rfl | rfl | rfl <;> rfl) (by omega) (by unfold maxLen; omega) (by omega) (by simp; omega) (w2.heap.size + 1) (by simp) ?_; intro g cap w3 hown3 hg3 hat3 hlt3; have HK := Lib.hid (fun (k : Nat) (t : TypeId) (cs : Array Value) (hB : Blk w2 k t cs) (ht : (77 : TypeId) ≠ t) => (hB.alloc _).grown hg3 (Ne.symm (own_blk_ne (w := w2) O2.out hB ht))); have C3 : Hid (Chg (fun _ => False) w w3) := (Chg.trans C2.out (Chg.grown (S := fun k => Value.ownBlock u7 = some k) ((Chg.refl _ w2).alloc _) hg3 (fun k hk => .inl hk)) (fun i hi e => by have := (O2.out.lt i e).1; omega)); have C23 : Hid (Chg (fun k => Value.ownBlock u7 = some k) w2 w3) := (Chg.grown (S := fun k => Value.ownBlock u7 = some k) ((Chg.refl _ w2).alloc _) hg3 (fun k hk => .inl hk)); have HO3 := Lib.hid hown3; have R3 : Hid (Res0 w3 w.heap.size) := (HK.out _ _ _ R2.out (by decide)); have B3 := Lib.hid (HK.out _ _ _ B2.out (by decide)); have X3 := Lib.hid (HK.out _ _ _ X2.out (by decide)); have b1 : w3.cell? ⟨bb, 1, none⟩ = some (.int .i64 ie) := (by rw [B3.out.cell]; rfl); have x7 : w3.cell? ⟨gx, 7, none⟩ = some (.int .i64 x.line) := (by rw [X3.out.cell]; rfl); have x8 : w3.cell? ⟨gx, 8, none⟩ = some (.int .i64 x.col) := (by rw [X3.out.cell]; rfl); obtain ⟨d0, d1, d2, g0, g1, g2, hwlt⟩ := res0_cells R3.out; clear hown3 hg3 hat3 hlt3 HK)
        have HFA : Hid (Nm.fault l f = (ie, x.line, x.col)) := by
          have h := Nm.fault_at (l := l) (f := f) (i := j) (x := x) G2.out HX.out (by rw [← HIE.out]; exact hie0.out)
          rw [← HIE.out] at h
          exact h
        go_region
        go_wp2
        refine fault_ret2 (q := 4) (p := 5) rfl (g := w.heap.size) rfl (by exact res0_set R3.out ie x.line x.col) rfl ⟨.slice none 0 0, ?_, .inl ⟨by rw [HFA.out]; exact hie0.out, rfl⟩, ?_⟩
        · rw [HFA.out]; rfl
        · exact (chg_set3 C3.out (Nat.le_refl _) _ _ _).drew
    · obtain rfl : j = f.length := by omega
      have htk : f.take f.length = f := List.take_of_length_le (Nat.le_refl _)
      obtain ⟨hR, hB, hT, hC, hO, hG, hbb⟩ := hM.out
      rw [htk] at hO
      obtain ⟨d0, d1, d2, g0, g1, g2, hwlt⟩ := res0_cells hR
      have HFA : Hid (Nm.fault l f = (0, 0, 0)) := Nm.fault_fine fun i x hx => hG i x (List.getElem?_eq_some_iff.1 hx).1 hx
      have HO := Lib.hid hO
      have HC := Lib.hid hC
      have HRR := Lib.hid hR
      clear hR hB hT hC hO hG hbb htk hM
      go_wp2
      refine fault_ret2 (q := 4) (p := 5) rfl (g := w.heap.size) rfl (by exact res0_set HRR.out 0 0 0) rfl ⟨u7, ?_, .inr ⟨HFA.out, ?_⟩, ?_⟩
      · rw [HFA.out]; rfl
      · have ne : ∀ g, (Value.ownBlock u7) = some g → g ≠ w.heap.size := fun g hg e => own_blk_ne HO.out HRR.out (by decide) (e ▸ hg)
        exact own_set (own_set (own_set HO.out (p := ⟨w.heap.size, 0, none⟩) (fun h => ne _ h rfl) _) (p := ⟨w.heap.size, 1, none⟩) (fun h => ne _ h rfl) _) (p := ⟨w.heap.size, 2, none⟩) (fun h => ne _ h rfl) _
      · exact chg_set3 HC.out (Nat.le_refl _) _ _ _
end Go.Proofs.Ytpppgnphblbbcaa
