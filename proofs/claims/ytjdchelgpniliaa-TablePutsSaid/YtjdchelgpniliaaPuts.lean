/- A table of any bits numbers texts in the order in which they come, finds them, and tells them: TablePuts returns true for every input: no condition. -/
import Derived.Test.YtjdchelgpniliaaTbl
import Derived.Test.YtjdchelgpniliaaSeen
namespace Go.Proofs.Ytjdchelgpniliaa
open Go.ChangeShapes Go.WideShapes Go.ChangeAt Go.RowKit
open Go.ChangeMaps (open_string)

/-- A table, and a list of the same texts, apart, above block B. -/
def Both (B : Nat) (w0 w : World) (b : Nat) (v : Value) (ts : List ByteArray) : Prop :=
  ∃ F : Nat → Prop, Tbl w F b ts ∧ w.ownsRow 0 9 1 v ts.length (ts.map Value.string) ∧ (∀ g, v.ownBlock = some g → ¬ F g) ∧ (∀ k, F k → B ≤ k ∧ k < w.heap.size) ∧ (∀ g, v.ownBlock = some g → B ≤ g) ∧ Chg (fun k => B ≤ k) w0 w
/-- The table has one text more than the list. -/
def Ahead (B : Nat) (w0 w : World) (b : Nat) (v : Value) (ts : List ByteArray) (s : ByteArray) : Prop :=
  ∃ F : Nat → Prop, Tbl w F b (ts ++ [s]) ∧ w.ownsRow 0 9 1 v ts.length (ts.map Value.string) ∧ (∀ g, v.ownBlock = some g → ¬ F g) ∧ (∀ k, F k → B ≤ k ∧ k < w.heap.size) ∧ (∀ g, v.ownBlock = some g → B ≤ g) ∧ Chg (fun k => B ≤ k) w0 w

theorem both_put {B : Nat} {w0 w : World} {b : Nat} {v : Value} {ts : List ByteArray} {s : ByteArray} (h : Both B w0 w b v ts) (hB : B ≤ w0.heap.size) (hz : s.size ≤ maxLen) (hno : s ∉ ts) (hmore : ts.length < 1000000) :
    Calls Try.prog 12 #[.pointer (some ⟨b, 0, none⟩), .string s] w fun e w' => e = .returned (.tuple #[.int .i64 ts.length, .bool true]) ∧ Ahead B w0 w' b v ts s := by
  obtain ⟨F, h1, h2, hd, l1, l2, hc⟩ := h
  refine (put_tbl_new w F b ts s hz h1 hno hmore).mono fun e w' ⟨he, hT, hC⟩ => ⟨he, Wider F w w', hT, own_chg h2 hC hd, ?_, ?_, l2, ?_⟩
  · rintro g hg (hk | hk)
    · exact hd g hg hk
    · have := own_lt h2 g hg; omega
  · have hsz := hC.size
    have hsz0 := hc.size
    rintro k (hk | hk)
    · have := l1 k hk; omega
    · omega
  · exact Chg.trans hc hC (fun i _ hi => (l1 i hi).1)
theorem both_drewN {B : Nat} {w0 w : World} {b : Nat} {v : Value} {ts : List ByteArray} (h : Both B w0 w b v ts) (n : Nat) : Both B w0 (w.drewN n) b v ts := by
  obtain ⟨F, h1, h2, hd, l1, l2, hc⟩ := h
  exact ⟨F, h1.drewN n, h2, hd, l1, l2, hc.drewN n⟩
/-- Behind the append. -/
theorem ahead_append {B : Nat} {w0 w w1 w2 : World} {b g cap : Nat} {v : Value} {ts : List ByteArray} {s : ByteArray} (h : Ahead B w0 w b v ts s) (hB : B ≤ w0.heap.size) {o : Obj} (hw : w1 = w.alloc o)
    (hown : w2.ownsRow 0 9 1 (.slice (some ⟨g, 0, none⟩) (ts.length + 1) cap) (ts.length + 1) (ts.map Value.string ++ [.string s])) (hg : w1.grownBy w2 v.ownBlock) (hat : v.ownBlock = some g ∨ g = w.heap.size + 1) :
    Both B w0 w2 b (.slice (some ⟨g, 0, none⟩) (ts.length + 1) cap) (ts ++ [s]) := by
  subst hw
  obtain ⟨F, h1, h2, hd, l1, l2, hc⟩ := h
  have hC : Chg (fun k => v.ownBlock = some k) w w2 := Chg.grown ((Chg.refl _ w).alloc o) hg (fun k hk => .inl hk)
  have hs0 := hc.size
  have hsz := hC.size
  refine ⟨F, h1.chg hC (fun k hk hv => hd k hv hk), ?_, ?_, ?_, ?_, Chg.trans hc hC (fun i _ hi => l2 i hi)⟩
  · rw [List.length_append, List.length_singleton, List.map_append]
    exact hown
  · intro g' hg' hF
    have e : g = g' := by simpa [Value.ownBlock] using hg'
    subst e
    rcases hat with e | e
    · exact hd g e hF
    · have := l1 g hF; omega
  · intro k hk
    have := l1 k hk; omega
  · intro g' hg'
    have e : g = g' := by simpa [Value.ownBlock] using hg'
    subst e
    rcases hat with e | e
    · exact l2 g e
    · omega

set_option maxRecDepth 100000 in
set_option maxHeartbeats 1000000 in
theorem law_puts (w : World) (A : Option Addr) (c : Nat) (ts : List ByteArray) (x : Int) (q : ByteArray) (hq : q.size ≤ maxLen) (hl : ts.length ≤ maxLen) (hr : Rd w w.heap.size A (ts.map Value.string)) (hz : ∀ t ∈ ts, t.size ≤ maxLen) :
    Calls Try.prog 5 #[.slice A ts.length c, .int .i64 x, .string q] w fun e w' => e = .returned (.bool true) ∧ Below w.heap.size w w' := by
  have HR := Lib.hid hr
  have HZ := Lib.hid hz
  have HL := Lib.hid hl
  have HQ := Lib.hid hq
  unfold maxLen at hl
  obtain ⟨i9, hi9, hz90, hz91, hz92⟩ := info_parts str_info
  clear hr hz hq
  go_enter Try.func5, Try.ntmps5
  go_wp2_with fail
  refine (much_any w w.heap.size A ts.length c ts rfl HL.out HR.out).mono ?_
  rintro e w' ⟨⟨bb, rfl, hm⟩, rfl⟩
  cases bb with
  | true =>
    clear hm
    go_wp2_with (go_at_call 7; refine (awake_any _).mono ?_; rintro e w' ⟨rfl, hC⟩)
    go_ret
    exact ⟨rfl, hC.below (Nat.le_refl _) (fun k hk => hk.elim)⟩
  | false =>
    have hm := hm rfl
    go_wp2_with fail
    refine (new_any _ _).mono ?_
    rintro e w1 ⟨rfl, hN1⟩
    obtain ⟨t1, c1⟩ := tbl_new hN1
    have hT : Hid (Both w.heap.size w w1 (w.heap.size + 1) (.slice none 0 0) []) :=
      ⟨_, t1, World.ownsRow_nil _ _ _ _, fun g hg => by simp [Value.ownBlock] at hg, fun k hk => hk, fun g hg => by simp [Value.ownBlock] at hg, c1.mono (fun _ _ h => h.elim)⟩
    clear hN1 t1 c1
    obtain ⟨b, hb⟩ : ∃ b, b = w.heap.size + 1 := ⟨_, rfl⟩
    rw [← hb] at hT ⊢
    clear hb
    go_wp2_with fail
    go_loopw [8, 9] (fun v i wr => ∃ k : Nat, k ≤ ts.length ∧ i = .int .i64 k ∧ Hid (Both w.heap.size w wr b v (Tb.seen (ts.take k)))) (fun _ i _ => ts.length - (intOf i).toNat)
    case atStart => exact ⟨0, Nat.zero_le _, rfl, hT⟩
    case round =>
      obtain ⟨k, hk, rfl, hI⟩ := hrel
      clear hT
      have hlen : (Tb.seen (ts.take k)).length ≤ 200 := by
        have h1 := Tb.seen_len (ts.take k)
        have h2 : (ts.take k).length ≤ k := List.length_take_le _ _
        omega
      obtain ⟨v, hv⟩ : ∃ v, v = u8 := ⟨_, rfl⟩
      rw [← hv] at hI ⊢
      clear hv
      obtain ⟨VA, Vc, hvs, _, _⟩ : ∃ VA Vc, v = .slice VA (Tb.seen (ts.take k)).length Vc ∧ (Tb.seen (ts.take k)).length ≤ Vc ∧ Vc ≤ maxLen := by
        obtain ⟨_, _, ho, _⟩ := hI.out
        exact own_slice ho
      subst hvs
      obtain ⟨acc, hacc⟩ : ∃ acc, acc = Tb.seen (ts.take k) := ⟨_, rfl⟩
      by_cases hlt : k < ts.length
      · have hrd : Rd wr w.heap.size A (ts.map Value.string) := by
          obtain ⟨_, _, _, _, _, _, hc⟩ := hI.out
          exact HR.out.chg hc (Nat.le_refl _) (fun _ h => h)
        obtain ⟨ad, hA, hadlt, hc⟩ := hrd.at (k := k) (by simpa using hlt)
        subst hA
        rw [List.getElem_map] at hc
        have hzk := Lib.hid (HZ.out _ (List.getElem_mem hlt))
        have hst := Lib.hid (Tb.seen_take hlt)
        obtain ⟨s, hs⟩ : ∃ s, s = ts[k] := ⟨_, rfl⟩
        rw [← hs] at hzk hst hc
        rw [← hacc] at hI hst hlen ⊢
        clear hs hacc hrd
        have hss := str_same s
        by_cases hin : 0 ≤ Tb.idx acc s
        · obtain ⟨i, hidx, hi⟩ := Tb.idx_mem hin
          rw [Tb.addT_old hin] at hst
          have hi := Lib.hid hi
          have hii : ((i : Int) != (i : Int)) = false := by simp
          have hil : i < acc.length := (List.getElem?_eq_some_iff.1 hi.out).1
          have hidx := Lib.hid hidx
          clear hin
          go_wp2_with fail
          obtain ⟨F, h1, _⟩ := hI.out
          refine (put_tbl_old _ F b acc s i hzk.out h1 hi.out).mono ?_
          rintro e w3 ⟨rfl, n1, hw3⟩
          have hI3 := both_drewN hI.out n1
          have hc3 : w3.cell? (ad.add k) = some (.string s) := by rw [hw3]; exact hc
          rw [← hw3] at hI3
          have HI3 := Lib.hid hI3
          obtain ⟨F3, h3, ho3, _⟩ := hI3
          have h3 := Lib.hid h3
          have ho3 := Lib.hid (own_rd ho3)
          clear hw3 h1 hc hI
          go_wp2_with fail
          refine (refFind_any _ w3.heap.size VA acc.length Vc acc s rfl (by omega) ho3.out).mono ?_
          rintro e w4 ⟨rfl, rfl⟩
          rw [hidx.out]
          go_wp2_with fail
          go_quiet ((go_at_call 15; exact Calls.quiet_of_same ((text_tbl _ F3 b acc s i (h3.out.drewN _) hi.out).mono fun _ _ h => ⟨h.1, h.2.symm⟩)))
          go_wp2
          go_roundw
          case rel =>
            refine ⟨k + 1, by omega, by go_num, ?_⟩
            rw [hst.out]
            exact both_drewN HI3.out _
          case measure => simp [intOf]; omega
        · have hneg : Tb.idx acc s < 0 := by omega
          obtain ⟨hno, hidx⟩ := Tb.idx_not hneg
          rw [Tb.addT_new hneg] at hst
          have hno := Lib.hid hno
          have hidx := Lib.hid hidx
          have hii : ((acc.length : Int) != (acc.length : Int)) = false := by simp
          clear hin hneg
          go_wp2_with fail
          refine (both_put hI.out (Nat.le_refl _) hzk.out hno.out (by omega)).mono ?_
          rintro e w3 ⟨rfl, hI3⟩
          have hc3 : w3.cell? (ad.add k) = some (.string s) := by
            obtain ⟨_, _, _, _, _, _, hcc⟩ := hI.out
            obtain ⟨_, _, _, _, _, _, hcc3⟩ := hI3
            have e1 := hcc.cell (p := ad.add k) (by rw [block_of_add]; exact hadlt) (by rw [block_of_add]; omega)
            have e2 := hcc3.cell (p := ad.add k) (by rw [block_of_add]; exact hadlt) (by rw [block_of_add]; omega)
            rw [e2, ← e1]; exact hc
          have HI3 := Lib.hid hI3
          obtain ⟨F3, h3, ho3, _⟩ := hI3
          have h3 := Lib.hid h3
          have hor := Lib.hid (own_rd ho3)
          have ho3 := Lib.hid ho3
          clear hc hI
          go_wp2_with fail
          refine (refFind_any _ w3.heap.size VA acc.length Vc acc s rfl (by omega) hor.out).mono ?_
          rintro e w4 ⟨rfl, rfl⟩
          rw [hidx.out]
          go_wp2_with (at_builtin; refine wpList_append_lies _ rfl (.tmp 50) (.tmp 55) 27 rfl 0 9 i9 _ 1 16 Try.underlying27 hi9 hz90 hz91 hz92 rfl (by omega) (.slice VA acc.length Vc) acc.length (acc.map Value.string) rfl (by exact World.ownsRow.alloc (w := w3) ho3.out _) ⟨w3.heap.size, 0, none⟩ 1 1 [.string s] rfl rfl (by exact one_new (Blk.new w3 _ _)) (by intro u hu; simp at hu; subst hu; rfl) (by omega) (by unfold maxLen; omega) (by omega) (Nat.zero_le _) (w3.heap.size + 1) (by simp) ?_; intro g cap w5 hown5 hg5 hat5 hlt5; have H5 := Lib.hid (ahead_append HI3.out (Nat.le_refl _) rfl hown5 hg5 hat5); clear hown5 hg5 hat5 hlt5)
          have hc5 : w5.cell? (ad.add k) = some (.string s) := by
            obtain ⟨_, _, _, _, _, _, hcc3⟩ := HI3.out
            obtain ⟨_, _, _, _, _, _, hcc5⟩ := H5.out
            have e1 := hcc3.cell (p := ad.add k) (by rw [block_of_add]; exact hadlt) (by rw [block_of_add]; omega)
            have e2 := hcc5.cell (p := ad.add k) (by rw [block_of_add]; exact hadlt) (by rw [block_of_add]; omega)
            rw [e2, ← e1]; exact hc3
          obtain ⟨F5, h5, _⟩ := H5.out
          have h5 := Lib.hid h5
          have hi5 : Hid ((acc ++ [s])[acc.length]? = some s) := by show (acc ++ [s])[acc.length]? = some s; simp
          clear hc3 HI3 h3 hor ho3
          go_quiet ((go_at_call 15; exact Calls.quiet_of_same ((text_tbl _ F5 b _ s acc.length (h5.out.drewN _) hi5.out).mono fun _ _ h => ⟨h.1, h.2.symm⟩)))
          go_wp2
          go_roundw
          case rel =>
            refine ⟨k + 1, by omega, by go_num, ?_⟩
            rw [hst.out]
            exact both_drewN H5.out _
          case measure => simp [intOf]; omega
      · have hse := str_same ⟨#[]⟩
        obtain ⟨F, h1, h2, _, _, _, hcc⟩ := hI.out
        rw [← hacc] at h1 h2 hlen ⊢
        have h1 := Lib.hid h1
        have hor := Lib.hid (own_rd h2)
        have HC := Lib.hid hcc
        have ho1 : Hid ((acc.length : Int) < 0 ∨ (acc.length : Int) ≤ (acc.length : Int)) := .inr (Int.le_refl _)
        have ho2 : Hid ((-1 : Int) < 0 ∨ (acc.length : Int) ≤ (-1 : Int)) := .inl (by omega)
        obtain ⟨A1, k1, l1⟩ := h1.out.len
        clear h2 hcc hacc hI
        by_cases hin : 0 ≤ Tb.idx acc q
        · obtain ⟨i, hidx, hi⟩ := Tb.idx_mem hin
          have hi := Lib.hid hi
          have hidx := Lib.hid hidx
          clear hin
          go_wp2_with fail
          refine (find_tbl_yes _ F b acc q i HQ.out h1.out hi.out).mono ?_
          rintro e w3 ⟨rfl, n1, hw3⟩
          have h3 := Lib.hid (h1.out.drewN n1)
          have hor3 := Lib.hid (hor.out.drewN n1)
          have HC3 := Lib.hid (HC.out.drewN n1)
          rw [← hw3] at h3 hor3 HC3
          have l3 : w3.cell? ⟨b, 2, none⟩ = some (.slice A1 acc.length k1) := by rw [hw3]; exact l1
          clear h1 hor HC hw3 l1
          go_wp2_with fail
          refine (refFind_any _ wr.heap.size VA acc.length Vc acc q rfl (by omega) hor3.out).mono ?_
          rintro e w4 ⟨rfl, rfl⟩
          rw [hidx.out]
          go_wp2_with fail
          refine (len_any _ _ _ _ _ l3).mono ?_
          rintro e w4 ⟨rfl, rfl⟩
          go_wp2_with fail
          refine (text_tbl_out _ F b acc acc.length h3.out ho1.out).mono ?_
          rintro e w4 ⟨rfl, rfl⟩
          go_wp2_with fail
          refine (text_tbl_out _ F b acc (-1) h3.out ho2.out).mono ?_
          rintro e w4 ⟨rfl, rfl⟩
          go_wp2_with (go_at_call 7; refine (awake_any _).mono ?_; rintro e w' ⟨rfl, hC⟩)
          go_ret
          exact ⟨rfl, (Chg.trans HC3.out hC (fun _ _ h => h.elim)).below (Nat.le_refl _) (fun _ h => h)⟩
        · have hneg : Tb.idx acc q < 0 := by omega
          obtain ⟨hno, hidx⟩ := Tb.idx_not hneg
          have hno := Lib.hid hno
          have hidx := Lib.hid hidx
          clear hin hneg
          go_wp2_with fail
          refine (find_tbl_no _ F b acc q HQ.out h1.out hno.out).mono ?_
          rintro e w3 ⟨rfl, n1, hw3⟩
          have h3 := Lib.hid (h1.out.drewN n1)
          have hor3 := Lib.hid (hor.out.drewN n1)
          have HC3 := Lib.hid (HC.out.drewN n1)
          rw [← hw3] at h3 hor3 HC3
          have l3 : w3.cell? ⟨b, 2, none⟩ = some (.slice A1 acc.length k1) := by rw [hw3]; exact l1
          clear h1 hor HC hw3 l1
          go_wp2_with fail
          refine (refFind_any _ wr.heap.size VA acc.length Vc acc q rfl (by omega) hor3.out).mono ?_
          rintro e w4 ⟨rfl, rfl⟩
          rw [hidx.out]
          go_wp2_with fail
          refine (len_any _ _ _ _ _ l3).mono ?_
          rintro e w4 ⟨rfl, rfl⟩
          go_wp2_with fail
          refine (text_tbl_out _ F b acc acc.length h3.out ho1.out).mono ?_
          rintro e w4 ⟨rfl, rfl⟩
          go_wp2_with fail
          refine (text_tbl_out _ F b acc (-1) h3.out ho2.out).mono ?_
          rintro e w4 ⟨rfl, rfl⟩
          go_wp2_with (go_at_call 7; refine (awake_any _).mono ?_; rintro e w' ⟨rfl, hC⟩)
          go_ret
          exact ⟨rfl, (Chg.trans HC3.out hC (fun _ _ h => h.elim)).below (Nat.le_refl _) (fun _ h => h)⟩

set_option maxRecDepth 100000 in
theorem tablePuts_lifted (os : Os) (started : os.Started) (H : Type) (enc : TypeId × Value → H) :
    ReturnsInHanded {} Try.checked os 5 .any (Rows.tablePutsSpec.pre6 enc Try.prog Try.f5 Rows.tablePutsRow.domain false) (Rows.tablePutsSpec.post enc Try.prog Try.f5 false true false false) := by
  refine law_lifted started enc 5 Try.f5 Rows.tablePutsSpec [27, 3, 9] (by kernel_rfl) Try.func5 (by kernel_rfl) rfl (by kernel_rfl) (fun i => by rw [Try.params5]; simp) ?_ ?_
    (ChangeSpec.witness6 (enc := enc) (C := Try.checked) false ⟨#[], #[.slice none 0 0, .int .i64 0, .string ⟨#[]⟩], []⟩ 8 (by kernel_rfl) (by kernel_rfl) (by kernel_rfl) (by kernel_rfl)) ?_
  · intro ds h
    match ds, h with
    | [d0, d1, d2], _ => rfl
  · intro t ht
    simp only [List.mem_cons, List.not_mem_nil, or_false] at ht
    rcases ht with rfl | rfl | rfl
    · exact ⟨by kernel_rfl, of_decide_eq_true (by kernel_rfl)⟩
    · exact ⟨by kernel_rfl, of_decide_eq_true (by kernel_rfl)⟩
    · exact ⟨by kernel_rfl, of_decide_eq_true (by kernel_rfl)⟩
  · rintro W base args ds p ⟨hval, hA, hsz⟩
    obtain ⟨v0, vs0, d0, ds0, p0, q0, hargs, rfl, rfl, h0, r0⟩ := trodAll_cons hA
    obtain ⟨v1, vs1, d1, ds1, p1, q1, rfl, rfl, rfl, h1, r1⟩ := trodAll_cons r0
    obtain ⟨v2, vs2, d2, ds2, p2, q2, rfl, rfl, rfl, h2, r2⟩ := trodAll_cons r1
    obtain ⟨rfl, rfl, rfl⟩ := trodAll_nil r2
    obtain rfl : args = #[v0, v1, v2] := by cases args; simp_all
    obtain ⟨A, n, c, rfl⟩ := okWide_slice Try.underlying27 (hval 0 27 v0 rfl rfl)
    obtain ⟨ts, rfl, hl, hr, hz⟩ := strs_in h0
    obtain ⟨x, rfl, rfl, rfl, wx⟩ := open_int Try.underlying3 (hval 1 3 v1 rfl rfl) h1
    obtain ⟨q, rfl, rfl, rfl, hq⟩ := open_string Try.underlying9 (hval 2 9 v2 rfl rfl) h2
    exact law_puts W A c ts x q hq hl hr hz

theorem tablePuts_holds : Rows.TablePutsSaid :=
  OpenClaim.holds_of_wide 5 Try.f5 rfl rfl rfl rfl rfl rfl rfl ⟨rfl, rfl, rfl, rfl, rfl⟩ rfl rfl rfl rfl rfl (by kernel_rfl) Try.func5 (by kernel_rfl)
    (of_decide_eq_true (by kernel_rfl)) (by unfold Func.isWrapper; rw [if_neg (of_decide_eq_false (by kernel_rfl))]; exact ⟨rfl, rfl⟩)
    (fun os started H enc _ => tablePuts_lifted os started H enc)
#print axioms tablePuts_holds
end Go.Proofs.Ytjdchelgpniliaa
