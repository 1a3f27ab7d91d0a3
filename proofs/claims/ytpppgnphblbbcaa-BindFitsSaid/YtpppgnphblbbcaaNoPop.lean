/- The walk of the maker's pop. -/
import Derived.Test.YtpppgnphblbbcaaNoSign
namespace Go.Proofs.Ytpppgnphblbbcaa
open Go.RowKit

set_option maxRecDepth 100000 in
set_option maxHeartbeats 2000000 in
theorem pop_any (w : World) (B b mb : Nat) (lv rv : Value) (L : List No.Stp) (a : Int) (r : List Int) (h : Mk w B b mb lv rv L (a :: r)) (hr : r.length ≤ 1000000) :
    Calls Try.prog 67 #[.pointer (some ⟨b, 0, none⟩)] w fun e w' => e = .returned (.int .i64 a) ∧ (∃ rv', Mk w' B b mb lv rv' L r) ∧ Chg (fun k => k = b) w w' := by
  have H0 := Lib.hid h
  obtain ⟨m0, m1, m2⟩ := h.cells
  obtain ⟨g, cap, hrv, _, hgl⟩ := h.ownR.form (by simp)
  have hcap : (a :: r).length ≤ cap := by
    obtain ⟨A', c', e, h1, _⟩ := own_slice h.ownR
    rw [hrv] at e
    injection e with _ _ e
    omega
  rw [List.length_cons] at hcap
  have hc := (hrv ▸ h.ownR).cellAt r.length (by simp)
  have hcell : w.cell? ⟨g, r.length, none⟩ = some (.int .i64 a) := by
    rw [hc, rowI_cons, List.getElem?_append_right (by rw [rowI_len]; exact Nat.le_refl _), rowI_len]; simp
  have hT : Hid (w.ownsRow B 3 1 (.slice (some ⟨g, 0, none⟩) r.length cap) r.length (rowI r)) := by
    have h1 := own_take (k := r.length) (hrv ▸ h.ownR) (by simp)
    rwa [rowI_cons, List.take_left' (rowI_len r)] at h1
  have HB := Lib.hid h.blk
  have hfr := h.blk.frozen 2
  have hbl := h.blk.lt
  rw [hrv, List.length_cons] at m2
  clear hc hrv h
  obtain ⟨q, hq⟩ : ∃ q, q = r.length := ⟨_, rfl⟩
  have d1 : ((q + 1 : Nat) : Int) - 1 = (q : Int) := by omega
  have HQ := Lib.hid hq
  rw [← hq] at m2 hcell hr hcap
  clear hq
  go_enter Try.func67, Try.ntmps67
  go_wp2
  go_ret
  have hmb : mb ≠ b := H0.out.map.ne_blk HB.out
  refine ⟨rfl, ⟨.slice (some ⟨g, 0, none⟩) q cap, HB.out.set 2 _, H0.out.map.same (Below.heap_setCell _ _ _ _ hmb), own_set H0.out.ownL (p := ⟨b, 2, none⟩) (own_blk_ne H0.out.ownL HB.out (by decide)) _, ?_, H0.out.hb, H0.out.hmb, H0.out.inv⟩, (Chg.refl (fun k => k = b) w).setCell (p := ⟨b, 2, none⟩) (.inl rfl) _⟩
  rw [HQ.out]
  exact own_set hT.out (p := ⟨b, 2, none⟩) (own_blk_ne hT.out HB.out (by decide)) _
end Go.Proofs.Ytpppgnphblbbcaa
