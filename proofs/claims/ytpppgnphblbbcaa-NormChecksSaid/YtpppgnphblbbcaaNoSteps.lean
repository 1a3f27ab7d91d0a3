/- The walk of Steps. -/
import Derived.Test.YtpppgnphblbbcaaNoItems
namespace Go.Proofs.Ytpppgnphblbbcaa
open Go.RowKit

/-- What a call of Steps leaves. -/
def StepsR (w : World) (f : List Nm.Inst) (e : Ending) (w' : World) : Prop :=
  Chg (fun _ => False) w w' ∧ ((Tr.check (sgI f) f.length ≠ 0 ∧ e = .returned (.tuple #[.slice none 0 0, .int .i64 0, .int .i64 17])) ∨
    (Tr.check (sgI f) f.length = 0 ∧ ∃ lv n, e = .returned (.tuple #[lv, .int .i64 n, .int .i64 0]) ∧ (No.upTo f f.length).2 = [n] ∧ w'.ownsRow w.heap.size 80 10 lv (No.upTo f f.length).1.length ((No.upTo f f.length).1.flatMap stpC)))
structure NoMid (w wr : World) (f : List Nm.Inst) (b mb j : Nat) : Prop where
  maker : ∃ lv rv, Mk wr w.heap.size b mb lv rv (No.upTo f j).1 (No.upTo f j).2
  chg : Chg (fun _ => False) w wr
/-- What is known of old blocks, behind a change of new ones. -/
theorem chg_base {w w1 w2 : World} (h : Chg (fun _ => False) w w1) (hc : Chg (fun k => w.heap.size ≤ k) w1 w2) : Chg (fun _ => False) w w2 := Chg.trans h hc (fun i hi hs => by omega)
theorem row_more {w2 wa w9 : World} {B b mb : Nat} {lv rv : Value} {L : List No.Stp} {r : List Int} {n : Int} {g cap : Nat} (h : Mk w2 B b mb lv rv L r) (ha : Chg (fun _ => False) w2 wa) (hg : wa.grownBy w9 rv.ownBlock)
    (ho : w9.ownsRow B 3 1 (.slice (some ⟨g, 0, none⟩) (r.length + 1) cap) (r.length + 1) (rowI r ++ [.int .i64 n])) :
    Blk w9 b 132 #[lv, .map (some mb), rv] ∧ Mk (w9.setCell ⟨b, 2, none⟩ (.slice (some ⟨g, 0, none⟩) (r.length + 1) cap)) B b mb lv (.slice (some ⟨g, 0, none⟩) (r.length + 1) cap) L (n :: r) ∧
      Chg (fun k => B ≤ k) w2 (w9.setCell ⟨b, 2, none⟩ (.slice (some ⟨g, 0, none⟩) (r.length + 1) cap)) := by
  have c9 : Chg (fun k => rv.ownBlock = some k) w2 w9 := Chg.grown (S := fun k => rv.ownBlock = some k) (ha.mono (fun _ _ h => h.elim)) hg (fun k hk => .inl hk)
  have hB := h.blk.chg c9 (own_blk_ne h.ownR h.blk (by decide))
  have hM := h.map.chg c9 (h.map.ne_own h.ownR)
  have hL := own_chg h.ownL c9 (fun k hk => own_own_ne h.ownL h.ownR (by decide) k hk)
  have hmb : mb ≠ b := hM.ne_blk hB
  refine ⟨hB, ⟨hB.set 2 _, hM.same (Below.heap_setCell _ _ _ _ hmb), own_set hL (p := ⟨b, 2, none⟩) (own_blk_ne hL hB (by decide)) _, ?_, h.hb, h.hmb, h.inv⟩, ?_⟩
  · rw [List.length_cons, rowI_cons]
    exact own_set ho (p := ⟨b, 2, none⟩) (own_blk_ne ho hB (by decide)) _
  · exact (c9.mono (T := fun k => B ≤ k) (fun i hi e => (h.ownR.lt i e).1)).setCell (p := ⟨b, 2, none⟩) (.inl h.hb) _
set_option maxRecDepth 100000 in
set_option maxHeartbeats 8000000 in
theorem steps_any (w : World) (A : Option Addr) (c : Nat) (f : List Nm.Inst) (hl : f.length ≤ 1000) (hr : Rd w w.heap.size A (f.flatMap instV7)) (hok : ∀ x ∈ f, No.okI x) :
    Calls Try.prog 50 #[.slice A f.length c] w fun e w' => StepsR w f e w' := by
  have HR := Lib.hid hr
  have HK := Lib.hid hok
  clear hr hok
  obtain ⟨i70, hi70, hz0, hz1, hz2⟩ := info_parts item70
  obtain ⟨i3, hi3, hy0, hy1, hy2⟩ := info_parts int3
  have hmm : ∀ w, (Instr.makeMap 130 none).run Try.prog w = .ok (.map (some w.heap.size)) (w.alloc (.map #[] 0)) := fun _ => by kernel_rfl
  go_enter Try.func50, Try.ntmps50
  go_wp2
  go_loopw [15, 5] (fun i v wr => ∃ j : Nat, j ≤ f.length ∧ i = .int .i64 j ∧ Hid (Items w wr f j v)) (fun i _ _ => f.length - (intOf i).toNat)
  case atStart => exact ⟨0, Nat.zero_le _, rfl, Items.start w f⟩
  case round =>
    obtain ⟨j, hj, rfl, hM⟩ := hrel
    by_cases hlt : j < f.length
    · obtain ⟨x, hx⟩ : ∃ x, f[j]? = some x := ⟨_, List.getElem?_eq_getElem hlt⟩
      obtain ⟨xb, o, hA, hxb, c0, c1, c2, c3, c4, c5, c6⟩ := ins_at (HR.out.chg hM.out.chg (Nat.le_refl _) (fun _ h => h.elim)) hx
      subst hA
      have HX := Lib.hid hx
      have hsz := hM.out.chg.size
      have y0 : (wr.alloc (.cells #[.int .i64 x.op, .int .i64 x.la, .int .i64 x.lnum, .int .i64 x.ra, .int .i64 x.rnum, .int .i64 x.n, .int .i64 x.user] 77)).cell? ⟨wr.heap.size, 0, none⟩ = some (.int .i64 x.op) := by rw [(Blk.new wr 77 _).cell]; rfl
      clear hx
      go_wp2_with (at_builtin; refine wpList_append_lies _ rfl (.tmp 19) (.tmp 23) 33 rfl w.heap.size 70 i70 _ 9 104 Try.underlying33 hi70 hz0 hz1 hz2 rfl (by omega) u5 j (cellsI (itemsUp f j)) rfl (by exact World.ownsRow.alloc (World.ownsRow.alloc hM.out.own _) _) ⟨wr.heap.size + 1, 0, none⟩ 1 1 (itemC (toItem x)) rfl rfl (by exact all_new (blk_new2 wr _ 70 (itemA (toItem x)))) (by intro u hu; rw [itemC_to] at hu; simp at hu; rcases hu with rfl | rfl | rfl | rfl | rfl | rfl | rfl | rfl | rfl <;> rfl) (by omega) (by unfold maxLen; omega) (by omega) (by simp; omega) (wr.heap.size + 1 + 1) (by simp) ?_; intro g cap w3 hown3 hg3 hat3 hlt3; have HI3 := Lib.hid (hM.out.more HX.out (((Chg.refl _ wr).alloc _).alloc _) hown3 hg3); clear hown3 hg3 hat3 hlt3)
      clear c0 c1 c2 c3 c4 c5 c6 y0 hsz
      go_roundw
      case rel => exact ⟨j + 1, by omega, by go_num, HI3⟩
      case measure => (simp [intOf] <;> omega)
    · obtain rfl : j = f.length := by omega
      clear hlt hj
      obtain ⟨A5, cap5, h5, _, _⟩ := own_slice hM.out.own
      have hown := hM.out.own
      rw [h5, itemsUp_all] at hown
      have hrd := own_rdN hown
      have hck := check_any wr A5 cap5 (f.map toItem) (by rw [List.length_map]; unfold maxLen; omega) hrd
      rw [List.length_map] at hck
      replace hck : Hid (Calls Try.prog 30 #[.slice A5 f.length cap5] wr fun e w' => e = .returned (.int .i64 (Tr.check (sgI f) f.length)) ∧ Chg (fun _ => False) wr w') := hck
      have HC := Lib.hid hM.out.chg
      rw [h5]
      clear hown hrd hM h5 hi70 hz0 hz1 hz2
      obtain ⟨ck, hckv⟩ : ∃ ck, ck = Tr.check (sgI f) f.length := ⟨_, rfl⟩
      rw [← hckv] at hck
      have HCV := Lib.hid hckv
      clear hckv
      by_cases hc0 : ck = 0
      · subst hc0
        go_wp2_with (go_at_call 30; refine Calls.mono hck.out ?_; rintro e w4 ⟨rfl, h⟩; have HC4 := Lib.hid (Chg.trans HC.out h (fun _ _ h => h)); clear h)
        obtain ⟨w6, hw6⟩ : ∃ w6, w6 = (w4.alloc (.map #[] 0)).alloc (.cells #[.slice none 0 0, .map (some w4.heap.size), .slice none 0 0] 132) := ⟨_, rfl⟩
        have K6 : Mk w6 w.heap.size (w4.heap.size + 1) w4.heap.size (.slice none 0 0) (.slice none 0 0) [] [] :=
          ⟨by rw [hw6]; exact blk_new2 _ _ _ _, by rw [hw6]; exact (MapAt.new w4).alloc _, World.ownsRow_nil _ _ _ _, World.ownsRow_nil _ _ _ _, by have := HC4.out.size; omega, HC4.out.size, No.inv_nil⟩
        have C6 : Chg (fun _ => False) w w6 := by rw [hw6]; exact (HC4.out.alloc _).alloc _
        rw [← hw6]
        obtain ⟨mb, hmbb⟩ : ∃ mb, mb = w4.heap.size := ⟨_, rfl⟩
        obtain ⟨b, hbb⟩ : ∃ b, b = w4.heap.size + 1 := ⟨_, rfl⟩
        rw [← hbb, ← hmbb] at K6
        rw [← hbb]
        clear hw6 hbb hmbb hmm hck HC HC4
        have HM6 : Hid (NoMid w w6 f b mb 0) := ⟨⟨_, _, K6⟩, C6⟩
        clear K6 C6
        go_loopw [34] (fun i wr => ∃ j : Nat, j ≤ f.length ∧ i = .int .i64 j ∧ Hid (NoMid w wr f b mb j)) (fun i _ => f.length - (intOf i).toNat)
        case atStart => exact ⟨0, Nat.zero_le _, rfl, HM6⟩
        case round =>
          obtain ⟨j, hj, rfl, hM⟩ := hrel
          clear HM6
          by_cases hlt : j < f.length
          · skip
            obtain ⟨x, hx⟩ : ∃ x, f[j]? = some x := ⟨_, List.getElem?_eq_getElem hlt⟩
            obtain ⟨xb, o, hA, hxb, c0, c1, c2, c3, c4, c5, c6⟩ := ins_at (HR.out.chg hM.out.chg (Nat.le_refl _) (fun _ h => h.elim)) hx
            subst hA
            have HUP := Lib.hid (up_all HCV.out.symm HK.out j hj)
            have hrc := up_rnd HCV.out.symm HK.out hx
            have hxi := Lib.hid (HK.out x (List.mem_of_getElem? hx))
            have hfew := HUP.out.few
            obtain ⟨tr, htr, hlr⟩ := HUP.out.run
            have hrl := run_le htr
            rw [hlr] at hrl
            clear htr hlr hx
            go_wp2_with fail
            obtain ⟨w1, hw1⟩ : ∃ w1, w1 = wr.alloc (.cells #[.int .i64 x.op, .int .i64 x.la, .int .i64 x.lnum, .int .i64 x.ra, .int .i64 x.rnum, .int .i64 x.n, .int .i64 x.user] 77) := ⟨_, rfl⟩
            obtain ⟨gx, hgx⟩ : ∃ gx, gx = wr.heap.size := ⟨_, rfl⟩
            have X1 : Hid (Blk w1 gx 77 (instA7 x)) := by rw [hw1, hgx]; exact Blk.new _ _ _
            have C1 : Hid (Chg (fun _ => False) wr w1) := by rw [hw1]; exact (Chg.refl _ _).alloc _
            rw [← hw1, ← hgx]
            obtain ⟨lv, rv, hk⟩ := hM.out.maker
            have hgb : gx ≠ b := by have := hk.blk.lt; omega
            have K1 := Lib.hid (hk.quiet C1.out)
            have CC := Lib.hid (Chg.trans hM.out.chg C1.out (fun _ _ h => h))
            clear hw1 hgx hk hM c0 c1 c2 c3 c4 c5 c6
            obtain ⟨L, hL⟩ : ∃ L, L = (No.upTo f j).1 := ⟨_, rfl⟩
            obtain ⟨rw0, hrw⟩ : ∃ r, r = (No.upTo f j).2 := ⟨_, rfl⟩
            unfold RndC at hrc
            rw [← hL, ← hrw] at hrc
            rw [← hL, ← hrw] at K1
            rw [← hL] at hfew
            rw [← hrw] at hrl
            clear hL hrw HUP
            obtain ⟨x0, x1, x2, x3, x4, x5, x6⟩ := inst_cells X1.out
            obtain ⟨m0, m1, m2⟩ := K1.out.cells
            refine Calls.mono (arity_any _ _) ?_
            rintro e w' ⟨rfl, rfl⟩
            have hjb : j ≤ 1000 := by omega
            rcases hrc with ⟨ha, a, r, rfl, hin, hup⟩ | ⟨ha, bb, a, r, rfl, hin, hin2, hup⟩ | ⟨ha, hop, hup⟩
            ·
              rw [ha]
              have hrl' : r.length ≤ 1000 := by rw [List.length_cons] at hrl; omega
              have HUP := Lib.hid hup
              have HIN := Lib.hid hin
              clear hup ha hin
              go_wp2_with fail
              have KP := Lib.hid (pop_any w1.drew w.heap.size b mb lv rv L a r (K1.out.quiet (Chg.refl _ _).drew) (by omega))
              obtain ⟨⟨L2, n2⟩, hr2⟩ : ∃ r, r = No.one L x.op a := ⟨_, rfl⟩
              have HR2 := Lib.hid hr2
              rw [← hr2] at HUP
              clear hr2
              go_region_with (first
                | (go_at_call 67; refine Calls.mono KP.out ?_; rintro e w2 ⟨rfl, ⟨rv2, hk2⟩, hc2⟩; have K2 := Lib.hid hk2; have C2 : Hid (Chg (fun k => w.heap.size ≤ k) w1 w2) := Chg.trans ((Chg.refl _ _).drew) hc2 (fun i _ e => by subst e; exact K1.out.hb); have x0 : w2.cell? ⟨gx, 0, none⟩ = some (.int .i64 x.op) := (by rw [(X1.out.chg (Chg.trans ((Chg.refl _ _).drew) hc2 (fun _ _ h => h)) hgb).cell]; rfl); clear hk2 hc2)
                | (go_at_call 66; refine Calls.mono (mone_any _ w.heap.size b mb lv _ L r x.op a K2.out (by omega) HIN.out) ?_; rintro e w3 ⟨rfl, ⟨lv3, hk3⟩, hc3⟩; rw [← HR2.out] at hk3 ⊢; have K3 : Hid (Mk w3 w.heap.size b mb lv3 rv2 L2 r) := hk3; have C3 := Lib.hid (Chg.trans C2.out hc3 (fun _ _ h => h)); clear hk3 hc3))
              all_goals
                try dsimp only
                clear x0 x1 x2 x3 x4 x5 x6 m0 m1 m2
                obtain ⟨m0, m1, m2⟩ := K3.out.cells
                have CA := Lib.hid (chg_base CC.out C3.out)
                go_wp2_with (at_builtin; refine wpList_append_lies _ rfl (.tmp 67) (.tmp 69) 59 rfl w.heap.size 3 i3 _ 1 8 Try.underlying59 hi3 hy0 hy1 hy2 rfl (by omega) rv2 r.length (rowI r) rfl (by exact World.ownsRow.alloc K3.out.ownR _) ⟨w3.heap.size, 0, none⟩ 1 1 [.int .i64 n2] rfl rfl (by exact one_new (Blk.new w3 3 _)) (by intro u hu; simp at hu; subst hu; rfl) (by omega) (by unfold maxLen; omega) (by omega) (by simp; have := K3.out.base; omega) (w3.heap.size + 1) (by simp) ?_; intro g cap w9 hown9 hg9 hat9 hlt9; have H9 := Lib.hid (row_more K3.out ((Chg.refl _ w3).alloc _) hg9 hown9); have m9 : w9.cell? ⟨b, 2, none⟩ = some rv2 := (by rw [H9.out.1.cell]; rfl); have fz := H9.out.1.frozen 2; have hbl9 := H9.out.1.lt; clear hown9 hg9 hat9 hlt9)
                go_roundw
                case rel => exact ⟨j + 1, by omega, by go_num, Lib.hid ⟨⟨_, _, by rw [HUP.out]; exact H9.out.2.1⟩, chg_base CA.out H9.out.2.2⟩⟩
                case measure => (simp [intOf] <;> omega)
            ·
              rw [ha]
              have hrl' : r.length ≤ 1000 := by simp only [List.length_cons] at hrl; omega
              have HUP := Lib.hid hup
              have HIN := Lib.hid hin
              have HIN2 := Lib.hid hin2
              clear hup ha hin hin2
              go_wp2_with fail
              refine Calls.mono (pop_any w1 w.heap.size b mb lv rv L bb (a :: r) K1.out (by rw [List.length_cons]; omega)) ?_
              rintro e w2 ⟨rfl, ⟨rv2, hk2⟩, hc2⟩
              have K2 := Lib.hid hk2
              have C2 : Hid (Chg (fun k => w.heap.size ≤ k) w1 w2) := hc2.mono (fun i _ e => by subst e; exact K1.out.hb)
              have X2 := Lib.hid (X1.out.chg hc2 hgb)
              clear hk2 hc2 x0 x1 x2 x3 x4 x5 x6 m0 m1 m2
              obtain ⟨x0, x1, x2, x3, x4, x5, x6⟩ := inst_cells X2.out
              go_wp2_with fail
              have KP := Lib.hid (pop_any w2.drew w.heap.size b mb lv rv2 L a r (K2.out.quiet (Chg.refl _ _).drew) (by omega))
              obtain ⟨⟨L2, n2⟩, hr2⟩ : ∃ r, r = No.two L x.op a bb := ⟨_, rfl⟩
              have HR2 := Lib.hid hr2
              rw [← hr2] at HUP
              clear hr2
              go_region_with (first
                | (go_at_call 67; refine Calls.mono KP.out ?_; rintro e w3 ⟨rfl, ⟨rv3, hk3⟩, hc3⟩; have K3 := Lib.hid hk3; have C3 : Hid (Chg (fun k => w.heap.size ≤ k) w1 w3) := Chg.trans C2.out (Chg.trans ((Chg.refl _ _).drew) hc3 (fun _ _ h => h)) (fun i _ e => by subst e; exact K1.out.hb); have x0 : w3.cell? ⟨gx, 0, none⟩ = some (.int .i64 x.op) := (by rw [(X2.out.chg (Chg.trans ((Chg.refl _ _).drew) hc3 (fun _ _ h => h)) hgb).cell]; rfl); clear hk3 hc3)
                | (go_at_call 68; refine Calls.mono (mtwo_any _ w.heap.size b mb lv _ L r x.op a bb K3.out (by omega) HIN.out HIN2.out) ?_; rintro e w4 ⟨rfl, ⟨lv4, hk4⟩, hc4⟩; rw [← HR2.out] at hk4 ⊢; have K4 : Hid (Mk w4 w.heap.size b mb lv4 rv3 L2 r) := hk4; have C4 := Lib.hid (Chg.trans C3.out hc4 (fun _ _ h => h)); clear hk4 hc4))
              all_goals
                try dsimp only
                clear x0 x1 x2 x3 x4 x5 x6
                obtain ⟨m0, m1, m2⟩ := K4.out.cells
                have CA := Lib.hid (chg_base CC.out C4.out)
                go_wp2_with (at_builtin; refine wpList_append_lies _ rfl (.tmp 67) (.tmp 69) 59 rfl w.heap.size 3 i3 _ 1 8 Try.underlying59 hi3 hy0 hy1 hy2 rfl (by omega) rv3 r.length (rowI r) rfl (by exact World.ownsRow.alloc K4.out.ownR _) ⟨w4.heap.size, 0, none⟩ 1 1 [.int .i64 n2] rfl rfl (by exact one_new (Blk.new w4 3 _)) (by intro u hu; simp at hu; subst hu; rfl) (by omega) (by unfold maxLen; omega) (by omega) (by simp; have := K4.out.base; omega) (w4.heap.size + 1) (by simp) ?_; intro g cap w9 hown9 hg9 hat9 hlt9; have H9 := Lib.hid (row_more K4.out ((Chg.refl _ w4).alloc _) hg9 hown9); have m9 : w9.cell? ⟨b, 2, none⟩ = some rv3 := (by rw [H9.out.1.cell]; rfl); have fz := H9.out.1.frozen 2; have hbl9 := H9.out.1.lt; clear hown9 hg9 hat9 hlt9)
                go_roundw
                case rel => exact ⟨j + 1, by omega, by go_num, Lib.hid ⟨⟨_, _, by rw [HUP.out]; exact H9.out.2.1⟩, chg_base CA.out H9.out.2.2⟩⟩
                case measure => (simp [intOf] <;> omega)
            ·
              rw [ha]
              have HUP := Lib.hid hup
              have HOP := Lib.hid hop
              clear hup ha hop
              have KA := Lib.hid (matom_any w1 w.heap.size b mb lv rv L rw0 x K1.out (by omega) HOP.out hxi.out)
              unfold instA7 at KA
              obtain ⟨⟨L2, n2⟩, hr2⟩ : ∃ r, r = No.put L (No.atomS x) := ⟨_, rfl⟩
              rw [← hr2] at HUP KA
              clear hr2
              go_wp2_with fail
              refine Calls.mono KA.out ?_
              rintro e w2 ⟨rfl, ⟨lv2, hk2⟩, hc2⟩
              have K2 : Hid (Mk w2 w.heap.size b mb lv2 rv L2 rw0) := hk2
              have C2 := Lib.hid hc2
              dsimp only
              clear hk2 hc2 KA x0 x1 x2 x3 x4 x5 x6 m0 m1 m2
              obtain ⟨m0, m1, m2⟩ := K2.out.cells
              have CA := Lib.hid (chg_base CC.out C2.out)
              go_wp2_with (at_builtin; refine wpList_append_lies _ rfl (.tmp 67) (.tmp 69) 59 rfl w.heap.size 3 i3 _ 1 8 Try.underlying59 hi3 hy0 hy1 hy2 rfl (by omega) rv rw0.length (rowI rw0) rfl (by exact World.ownsRow.alloc K2.out.ownR _) ⟨w2.heap.size, 0, none⟩ 1 1 [.int .i64 n2] rfl rfl (by exact one_new (Blk.new w2 3 _)) (by intro u hu; simp at hu; subst hu; rfl) (by omega) (by unfold maxLen; omega) (by omega) (by simp; have := K2.out.base; omega) (w2.heap.size + 1) (by simp) ?_; intro g cap w9 hown9 hg9 hat9 hlt9; have H9 := Lib.hid (row_more K2.out ((Chg.refl _ w2).alloc _) hg9 hown9); have m9 : w9.cell? ⟨b, 2, none⟩ = some rv := (by rw [H9.out.1.cell]; rfl); have fz := H9.out.1.frozen 2; have hbl9 := H9.out.1.lt; clear hown9 hg9 hat9 hlt9)
              go_roundw
              case rel => exact ⟨j + 1, by omega, by go_num, Lib.hid ⟨⟨_, _, by rw [HUP.out]; exact H9.out.2.1⟩, chg_base CA.out H9.out.2.2⟩⟩
              case measure => (simp [intOf] <;> omega)
          · skip
            obtain rfl : j = f.length := by omega
            obtain ⟨lv, rv, hk⟩ := hM.out.maker
            obtain ⟨n, hn, _, _⟩ := up_end HCV.out.symm HK.out
            rw [hn] at hk
            have K1 := Lib.hid hk
            have HN := Lib.hid hn
            have CC := Lib.hid hM.out.chg
            obtain ⟨m0, m1, m2⟩ := hk.cells
            have KP := Lib.hid (pop_any wr.drew w.heap.size b mb lv rv _ n [] (K1.out.quiet (Chg.refl _ _).drew) (by simp))
            clear hk hn hM hlt hj
            go_wp2_with fail
            go_region_with (go_at_call 67; refine Calls.mono KP.out ?_; rintro e w2 ⟨rfl, ⟨rv2, hk2⟩, hc2⟩; have K2 := Lib.hid hk2; have C2 : Hid (Chg (fun k => w.heap.size ≤ k) wr w2) := Chg.trans ((Chg.refl _ _).drew) hc2 (fun i _ e => by subst e; exact K1.out.hb); have m0 : w2.cell? ⟨b, 0, none⟩ = some lv := (K2.out.cells).1; clear hk2 hc2)
            all_goals
              go_wp2
              go_ret3
              exact ⟨chg_base CC.out C2.out, .inr ⟨HCV.out.symm, lv, n, rfl, HN.out, K2.out.ownL⟩⟩
      · have d0 : (ck == 0) = false := by simpa using hc0
        have d1 : (ck != 0) = true := by simpa using hc0
        go_wp2_with (go_at_call 30; refine Calls.mono hck.out ?_; rintro e w4 ⟨rfl, h⟩; have HC4 := Lib.hid (Chg.trans HC.out h (fun _ _ h => h)); clear h)
        go_ret3
        exact ⟨HC4.out, .inl ⟨by rw [← HCV.out]; exact hc0, rfl⟩⟩
end Go.Proofs.Ytpppgnphblbbcaa
