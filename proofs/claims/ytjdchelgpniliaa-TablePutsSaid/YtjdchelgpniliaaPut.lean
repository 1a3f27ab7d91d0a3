/- The walks of Put. -/
import Derived.Test.YtjdchelgpniliaaTab
import Derived.Deep.RegionLaw
import Derived.Deep.DeepMust
import Derived.Deep.DeepCutAuto
namespace Go.Proofs.Ytjdchelgpniliaa
open Go.RowKit

def TabFoot (b hb : Nat) (nv tv : Value) : Nat → Prop := fun k => k = b ∨ k = hb ∨ nv.ownBlock = some k ∨ tv.ownBlock = some k

def PutDone (b hb m : Nat) (nv tv : Value) (ts : List ByteArray) (s : ByteArray) (w w' : World) : Prop :=
  ∃ nv' tv' hs' nx', TabAt w' b hb m nv' tv' hs' nx' (ts ++ [s]) ∧ Chg (TabFoot b hb nv tv) w w' ∧
    (∀ k, TabFoot b hb nv' tv' k → TabFoot b hb nv tv k ∨ (w.heap.size ≤ k ∧ k < w'.heap.size))

theorem int_info : (Try.prog.info? 3).map (fun i => (i.zero, i.size, i.bytes)) = some (some (.int .i64 0), 1, 8) := by kernel_rfl
theorem str_info : (Try.prog.info? 9).map (fun i => (i.zero, i.size, i.bytes)) = some (some (.string ⟨#[]⟩), 1, 16) := by kernel_rfl

theorem one_new {w : World} {B : Nat} {x : Value} {t : TypeId} (h : Blk w B t #[x]) : ∀ j u, [x][j]? = some u → w.cell? ((⟨B, 0, none⟩ : Addr).add j) = some u := fun j u hu => by
  match j, hu with
  | 0, hu =>
    have : (⟨B, 0, none⟩ : Addr).add 0 = ⟨B, 0, none⟩ := by simp [Addr.add]
    rw [this, h.cell]; simpa using hu
theorem put_end {w w2 w3 : World} {b hb m g cap g' cap' : Nat} {hs nx : List Int} {ts : List ByteArray} {s : ByteArray} {NA TA : Option Addr} {Nc Tc : Nat} {L : Int}
    (H : TabAt w b hb m (.slice NA ts.length Nc) (.slice TA ts.length Tc) hs nx ts) (hno : s ∉ ts) (hmore : ts.length < 1000000)
    (hbh : b ≠ hb) (hhlt : hb < w.heap.size) (hgh : g ≠ hb) (hgl : w.heap.size < w2.heap.size ∧ g < w2.heap.size ∧ (TabFoot b hb (Value.slice NA ts.length Nc) (Value.slice TA ts.length Tc) g ∨ w.heap.size ≤ g))
    (Ht : w2.ownsRow 0 9 1 (.slice (some ⟨g, 0, none⟩) (ts.length + 1) cap) (ts.length + 1) (ts.map Value.string ++ [.string s]))
    (Hn : w2.ownsRow 0 3 1 (.slice NA ts.length Nc) ts.length (nx.map (Value.int .i64)))
    (Hc : Chg (TabFoot b hb (Value.slice NA ts.length Nc) (Value.slice TA ts.length Tc)) w w2)
    (hL : L = Tb.lastB m ts (Tb.bkt m s) ts.length)
    (hown3 : w3.ownsRow 0 3 1 (.slice (some ⟨g', 0, none⟩) (ts.length + 1) cap') (ts.length + 1) (nx.map (Value.int .i64) ++ [.int .i64 L]))
    (hc3 : Chg (fun k => (Value.slice NA ts.length Nc).ownBlock = some k) w2 w3)
    (hat3 : (Value.slice NA ts.length Nc).ownBlock = some g' ∨ g' = w2.heap.size + 1) (hlt3 : g' < w3.heap.size)
    (B3 : Blk w3 b 40 #[.slice (some ⟨hb, 0, none⟩) m m, .slice NA ts.length Nc, .slice (some ⟨g, 0, none⟩) (ts.length + 1) cap])
    (H3 : Blk w3 hb 3 (hs.map (Value.int .i64)).toArray) :
    PutDone b hb m (.slice NA ts.length Nc) (.slice TA ts.length Tc) ts s w ((w3.setCell ⟨b, 1, none⟩ (.slice (some ⟨g', 0, none⟩) (ts.length + 1) cap')).setCell ⟨hb, Tb.bkt m s, none⟩ (.int .i64 ts.length)) := by
  have hg'h : g' ≠ hb := by
    rcases hat3 with e | e
    · intro e'; subst e'; exact H.apart e
    · have := hgl.1; omega
  have hlen : (ts ++ [s]).length = ts.length + 1 := by simp
  refine ⟨.slice (some ⟨g', 0, none⟩) (ts.length + 1) cap', .slice (some ⟨g, 0, none⟩) (ts.length + 1) cap, hs.set (Tb.bkt m s) ts.length, nx ++ [L], ⟨?_, ?_, ?_, ?_, ?_, H.pow, ?_, ?_, ?_⟩, ?_, ?_⟩
  · exact (B3.set 1 _).far (p := ⟨hb, Tb.bkt m s, none⟩) hbh _
  · have := (H3.far (p := ⟨b, 1, none⟩) (fun e => hbh e.symm) (.slice (some ⟨g', 0, none⟩) (ts.length + 1) cap')).set (Tb.bkt m s) (.int .i64 ts.length)
    rw [List.map_set]
    simpa using this
  · rw [hlen, List.map_append]
    exact own_set (own_set hown3 (p := ⟨b, 1, none⟩) (own_blk_ne hown3 B3 (by decide)) _) (p := ⟨hb, Tb.bkt m s, none⟩) (by simpa [Value.ownBlock] using hg'h) _
  · rw [hlen, List.map_append]
    have h3 := own_chg Ht hc3 (fun k hk => own_own_ne Ht Hn (by decide) k hk)
    exact own_set (own_set h3 (p := ⟨b, 1, none⟩) (own_blk_ne h3 B3 (by decide)) _) (p := ⟨hb, Tb.bkt m s, none⟩) (by simpa [Value.ownBlock] using hgh) _
  · simpa [Value.ownBlock] using hg'h
  · rw [hlen]; omega
  · rw [hL]; exact Tb.chain_add H.chain s
  · rw [List.nodup_append]
    exact ⟨H.distinct, by simp, fun a ha c hc => by simp at hc; subst hc; rintro rfl; exact hno ha⟩
  · have h1 := Chg.trans Hc hc3 (fun i _ hi => .inr (.inr (.inl hi)))
    exact Chg.setCell (Chg.setCell h1 (p := ⟨b, 1, none⟩) (.inl (.inl rfl)) _) (p := ⟨hb, Tb.bkt m s, none⟩) (.inl (.inr (.inl rfl))) _
  · intro k hk
    have hsz : ((w3.setCell ⟨b, 1, none⟩ (.slice (some ⟨g', 0, none⟩) (ts.length + 1) cap')).setCell ⟨hb, Tb.bkt m s, none⟩ (.int .i64 ts.length)).heap.size = w3.heap.size := by simp [World.setCell]
    rw [hsz]
    have hs3 := hc3.size
    rcases hk with e | e | e | e
    · exact .inl (.inl e)
    · exact .inl (.inr (.inl e))
    · have e' : g' = k := by simpa [Value.ownBlock] using e
      subst e'
      rcases hat3 with e | e
      · exact .inl (.inr (.inr (.inl e)))
      · right; omega
    · have e' : g = k := by simpa [Value.ownBlock] using e
      subst e'
      rcases hgl.2.2 with e | e
      · exact .inl e
      · right; omega

set_option maxHeartbeats 800000 in
theorem put_new (w : World) (b hb m : Nat) (nv tv : Value) (hs nx : List Int) (ts : List ByteArray) (s : ByteArray) (hz : s.size ≤ maxLen) (h : TabAt w b hb m nv tv hs nx ts) (hno : s ∉ ts) (hmore : ts.length < 1000000) :
    Calls Try.prog 12 #[.pointer (some ⟨b, 0, none⟩), .string s] w fun e w' => e = .returned (.tuple #[.int .i64 ts.length, .bool true]) ∧ PutDone b hb m nv tv ts s w w' := by
  obtain ⟨NA, Nc, TA, Tc, rfl, rfl, c0, c1, c2, ch, hx⟩ := h.reads s
  clear hx
  obtain ⟨hm0, hm1⟩ := h.m_bd
  have hmd : decide (0 < m) = true := by simpa using hm0
  have hpow := Lib.hid h.pow
  have hno' := Lib.hid hno
  have H := Lib.hid h
  have hblt := h.str.lt
  have hhlt := h.heads.lt
  have f0 := h.str.frozen 0
  have f1 := h.str.frozen 1
  have f2 := h.str.frozen 2
  have fh := h.heads.frozen (Tb.bkt m s)
  have hnt := Lib.hid (own_blk_ne h.txo h.str (by decide))
  have hnn := Lib.hid (own_blk_ne h.nxo h.str (by decide))
  have hth := Lib.hid (own_blk_ne h.txo h.heads (by decide))
  have hnh := Lib.hid h.apart
  have hbh : b ≠ hb := h.str.ne_ h.heads (by decide)
  obtain ⟨i3, hi3, hz30, hz31, hz32⟩ := info_parts int_info
  obtain ⟨i9, hi9, hz90, hz91, hz92⟩ := info_parts str_info
  clear h hno
  go_enter Try.func12, Try.ntmps12
  go_wp2_with (first | (go_at_call 17; refine (made_any _ _ _ _ _ c0).mono ?_; rintro e w' ⟨rfl, rfl⟩) | (go_at_call 16; refine (find_no _ _ _ _ _ _ _ _ _ _ hz H.out hno'.out).mono ?_; rintro e w' ⟨rfl, n1, rfl⟩) | (go_at_call 18; refine (head_any _ _ _ _ _ hz hpow.out (by exact c0)).mono ?_; rintro e w' ⟨rfl, n2, rfl⟩) | (at_builtin; refine wpList_append_lies _ rfl (.tmp 33) (.tmp 35) 27 rfl 0 9 i9 _ 1 16 Try.underlying27 hi9 hz90 hz91 hz92 rfl (by omega) (.slice TA ts.length Tc) ts.length (ts.map Value.string) rfl (by exact World.ownsRow.alloc (w := w.drewN (n1 + n2)) H.out.txo _) ⟨w.heap.size, 0, none⟩ 1 1 [.string s] rfl rfl ?news ?one (by omega) ?c63 ?cb (Nat.zero_le _) (w.heap.size + 1) ?hH ?_; rotate_left 5; intro g cap w1 hown1 hg1 hat1 hlt1; have hw1 : ∀ k, k < w.heap.size → (Value.slice TA ts.length Tc).ownBlock ≠ some k → w1.heap[k]? = w.heap[k]? := (fun k hk hn => (hg1.block k (by simp; omega) (fun e => hn e.symm)).trans (Below.heap_alloc (w.drewN (n1 + n2)) _ k hk)); have B1 : Blk w1 b 40 #[.slice (some ⟨hb, 0, none⟩) m m, .slice NA ts.length Nc, .slice TA ts.length Tc] := (hw1 b hblt hnt.out).trans H.out.str; have C2 := B1.cell 2; have F2 := B1.frozen 2; simp at C2))
  case news => exact one_new (Blk.new (w.drewN (n1 + n2)) _ _)
  case one => intro u hu; simp at hu; subst hu; rfl
  case c63 => unfold maxLen; omega
  case cb => omega
  case hH => simp
  -- the world behind the first append and its store, under a name
  have hnx1 : w1.ownsRow 0 3 1 (.slice NA ts.length Nc) ts.length (nx.map (Value.int .i64)) :=
    own_heap H.out.nxo fun k hk => hw1 k (own_lt H.out.nxo k hk) (own_own_ne H.out.nxo H.out.txo (by decide) k hk)
  have H1 : Blk w1 hb 3 (hs.map (Value.int .i64)).toArray := (hw1 hb hhlt hth.out).trans H.out.heads
  have hgb : g ≠ b := (own_blk_ne hown1 B1 (by decide)) ∘ (congrArg some)
  have hgh : g ≠ hb := (own_blk_ne hown1 H1 (by decide)) ∘ (congrArg some)
  obtain ⟨w2, hw2⟩ : ∃ w2, w2 = w1.setCell { block := b, off := 2 } (Value.slice (some { block := g, off := 0 }) (ts.length + 1) cap) := ⟨_, rfl⟩
  have B2 : Blk w2 b 40 #[.slice (some ⟨hb, 0, none⟩) m m, .slice NA ts.length Nc, .slice (some ⟨g, 0, none⟩) (ts.length + 1) cap] := by rw [hw2]; exact B1.set 2 _
  have H2 : Blk w2 hb 3 (hs.map (Value.int .i64)).toArray := by rw [hw2]; exact H1.far (p := ⟨b, 2, none⟩) (fun e => hbh e.symm) _
  have hnx2 : w2.ownsRow 0 3 1 (.slice NA ts.length Nc) ts.length (nx.map (Value.int .i64)) := by rw [hw2]; exact own_set hnx1 (p := ⟨b, 2, none⟩) hnn.out _
  have htx2 : w2.ownsRow 0 9 1 (.slice (some ⟨g, 0, none⟩) (ts.length + 1) cap) (ts.length + 1) (ts.map Value.string ++ [.string s]) := by rw [hw2]; exact own_set hown1 (p := ⟨b, 2, none⟩) (by simpa [Value.ownBlock] using hgb) _
  have hch2 : Chg (TabFoot b hb (.slice NA ts.length Nc) (.slice TA ts.length Tc)) w w2 := by
    rw [hw2]
    refine Chg.setCell (Chg.grown (((Chg.refl _ w).drewN (n1 + n2)).alloc _) hg1 (fun k hk => .inl (.inr (.inr (.inr hk))))) (.inl (.inl rfl)) _
  have hgl2 : w.heap.size < w2.heap.size ∧ g < w2.heap.size ∧ (TabFoot b hb (.slice NA ts.length Nc) (.slice TA ts.length Tc) g ∨ w.heap.size ≤ g) := by
    have h1 : w.heap.size + 1 ≤ w1.heap.size := by have := hg1.size; simpa using this
    have h2 : w2.heap.size = w1.heap.size := by rw [hw2]; simp [World.setCell]
    refine ⟨by omega, by omega, ?_⟩
    rcases hat1 with e | e
    · exact .inl (.inr (.inr (.inr e)))
    · exact .inr (by omega)
  rw [← hw2]
  clear hw2 hown1 hg1 hat1 hlt1 hw1 B1 C2 F2 hnx1 H1 hnt c0 c1 c2 f0 f1 f2 fh ch hth
  have Hb := Lib.hid B2; have Hh := Lib.hid H2; have Hn := Lib.hid hnx2; have Ht := Lib.hid htx2; have Hc := Lib.hid hch2
  have C1 : w2.cell? ⟨b, 1, none⟩ = some (.slice NA ts.length Nc) := by rw [B2.cell]; rfl
  have F1 := B2.frozen 1
  have CH : w2.cell? ⟨hb, Tb.bkt m s, none⟩ = some (.int .i64 (Tb.lastB m ts (Tb.bkt m s) ts.length)) := by
    rw [H2.cell]
    have := H.out.chain.head _ (Tb.bkt_lt H.out.m_bd.1 s)
    simp only [List.getElem?_toArray, List.getElem?_map, this, Option.map_some]
  have hbl2 := B2.lt
  have hhl2 := H2.lt
  obtain ⟨L, hL⟩ : ∃ L, L = Tb.lastB m ts (Tb.bkt m s) ts.length := ⟨_, rfl⟩
  rw [← hL] at CH
  have HL := Lib.hid hL
  have hbh' : hb ≠ b := fun e => hbh e.symm
  clear B2 H2 hnx2 htx2 hch2 hL
  go_region_law (refine step_append_lies _ rfl (.tmp 43) (.tmp 47) 38 rfl 0 3 i3 _ 1 8 Try.underlying38 hi3 hz30 hz31 hz32 rfl (by omega) (.slice NA ts.length Nc) ts.length (nx.map (Value.int .i64)) rfl (by exact World.ownsRow.alloc (w := w2.drew) Hn.out _) ⟨w2.heap.size, 0, none⟩ 1 1 [.int .i64 L] rfl rfl (by exact one_new (Blk.new w2.drew _ _)) (by intro u hu; simp at hu; subst hu; rfl) (by omega) (by unfold maxLen; omega) (by omega) (Nat.zero_le _) (w2.heap.size + 1) (by simp) ?_; intro g' cap' w3 hown3 hg3 hat3 hlt3; have hc3 : Hid (Chg (fun k => (Value.slice NA ts.length Nc).ownBlock = some k) w2 w3) := (by first | exact Chg.grown (((Chg.refl _ w2).alloc _).drew) hg3 (fun k hk => .inl hk) | exact Chg.grown (((Chg.refl _ w2).drew).alloc _) hg3 (fun k hk => .inl hk)); have W3 := Lib.hid (show ∀ k, k < w2.heap.size → (Value.slice NA ts.length Nc).ownBlock ≠ some k → w3.heap[k]? = w2.heap[k]? from fun k hk hn => (hg3.block k (by simp; omega) (fun e => hn e.symm)).trans (Below.heap_alloc w2.drew _ k hk)); have B3 := Lib.hid (show Blk w3 b 40 _ from (W3.out b hbl2 hnn.out).trans Hb.out); have H3 := Lib.hid (show Blk w3 hb 3 _ from (W3.out hb hhl2 hnh.out).trans Hh.out); have C31 : w3.cell? ⟨b, 1, none⟩ = some (.slice NA ts.length Nc) := (by rw [B3.out.cell]; rfl); have F31 := B3.out.frozen 1; have C3h : w3.cell? ⟨hb, Tb.bkt m s, none⟩ = some (.int .i64 L) := (by rw [H3.out.cell, ← Hh.out.cell]; exact CH); have F3h := H3.out.frozen (Tb.bkt m s))
  go_wp2
  all_goals
    go_ret2
    exact ⟨rfl, put_end H.out hno'.out hmore hbh hhlt hgh hgl2 Ht.out Hn.out Hc.out HL.out hown3 hc3.out hat3 hlt3 B3.out H3.out⟩

set_option maxHeartbeats 400000 in
theorem put_old (w : World) (b hb m : Nat) (nv tv : Value) (hs nx : List Int) (ts : List ByteArray) (s : ByteArray) (i0 : Nat) (hz : s.size ≤ maxLen) (h : TabAt w b hb m nv tv hs nx ts) (hi0 : ts[i0]? = some s) :
    Calls Try.prog 12 #[.pointer (some ⟨b, 0, none⟩), .string s] w fun e w' => e = .returned (.tuple #[.int .i64 i0, .bool false]) ∧ ∃ n, w' = w.drewN n := by
  obtain ⟨NA, Nc, TA, Tc, rfl, rfl, c0, c1, c2, ch, hx⟩ := h.reads s
  clear hx
  obtain ⟨hm0, hm1⟩ := h.m_bd
  have hmd : decide (0 < m) = true := by simpa using hm0
  have H := Lib.hid h
  have hi0' := Lib.hid hi0
  clear h hi0
  go_enter Try.func12, Try.ntmps12
  go_wp2_with (first | (go_at_call 17; refine (made_any _ _ _ _ _ c0).mono ?_; rintro e w' ⟨rfl, rfl⟩) | (go_at_call 16; refine (find_yes _ _ _ _ _ _ _ _ _ _ _ hz H.out hi0'.out).mono ?_; rintro e w' ⟨rfl, n1, rfl⟩))
  go_ret2
  exact ⟨rfl, _, rfl⟩

set_option maxHeartbeats 400000 in
theorem put_none (w : World) (s : ByteArray) : Calls Try.prog 12 #[.pointer none, .string s] w fun e w' => e = .returned (.tuple #[.int .i64 0, .bool false]) ∧ w = w' := by
  go_enter Try.func12, Try.ntmps12
  go_wp2_with (first | (go_at_call 17; refine (made_nil _).mono ?_; rintro e w' ⟨rfl, rfl⟩))
  go_ret2
  exact ⟨rfl, rfl⟩
set_option maxHeartbeats 400000 in
theorem put_zero (w : World) (s : ByteArray) (b c : Nat) (A : Option Addr) (hc : w.cell? ⟨b, 0, none⟩ = some (.slice A 0 c)) : Calls Try.prog 12 #[.pointer (some ⟨b, 0, none⟩), .string s] w fun e w' => e = .returned (.tuple #[.int .i64 0, .bool false]) ∧ w = w' := by
  have hmd : decide (0 < 0) = false := by decide
  go_enter Try.func12, Try.ntmps12
  go_wp2_with (first | (go_at_call 17; refine (made_any _ _ _ _ _ hc).mono ?_; rintro e w' ⟨rfl, rfl⟩))
  go_ret2
  exact ⟨rfl, rfl⟩
set_option maxHeartbeats 400000 in
theorem find_none (w : World) (s : ByteArray) : Calls Try.prog 16 #[.pointer none, .string s] w fun e w' => e = .returned (.tuple #[.int .i64 0, .bool false]) ∧ w = w' := by
  go_enter Try.func16, Try.ntmps16
  go_wp2_with (first | (go_at_call 17; refine (made_nil _).mono ?_; rintro e w' ⟨rfl, rfl⟩))
  go_ret2
  exact ⟨rfl, rfl⟩
set_option maxHeartbeats 400000 in
theorem find_zero (w : World) (s : ByteArray) (b c : Nat) (A : Option Addr) (hc : w.cell? ⟨b, 0, none⟩ = some (.slice A 0 c)) : Calls Try.prog 16 #[.pointer (some ⟨b, 0, none⟩), .string s] w fun e w' => e = .returned (.tuple #[.int .i64 0, .bool false]) ∧ w = w' := by
  go_enter Try.func16, Try.ntmps16
  go_wp2_with (first | (go_at_call 17; refine (made_any _ _ _ _ _ hc).mono ?_; rintro e w' ⟨rfl, rfl⟩))
  go_ret2
  exact ⟨rfl, rfl⟩
end Go.Proofs.Ytjdchelgpniliaa
