/- The walk of layer 4's awake. -/
import Derived.Test.YtpppgnphblbbcaaTrPart
import Derived.Test.YtpppgnphblbbcaaNmAwake
namespace Go.Proofs.Ytpppgnphblbbcaa
open Go.RowKit

/-- How deep a list is. -/
def deepV (f : List Nm.Item) : Int := match Tr.run (sg f) f.length with
  | some [t] => if Tr.check (sg f) f.length = 0 then (t.deep : Int) else 0
  | _ => 0
theorem DeepR.val {f : List Nm.Item} {v : Int} (h : DeepR f v) : v = deepV f := by
  unfold deepV
  rcases h with ⟨t, h1, h2, h3⟩ | ⟨h1, h2⟩
  · rw [h1]; simp only; rw [if_pos h2]; exact h3
  · split
    · rw [if_neg h1]; exact h2
    · exact h2
def itm (op : Int) : Nm.Item := ⟨op, ⟨#[]⟩, 0, ⟨#[]⟩, 0, ⟨#[]⟩, ⟨#[]⟩, 0, 0⟩
def tri3 : List Nm.Item := [itm 1, itm 2, itm 16]
theorem tri_check : Tr.check (sg tri3) 3 = 0 := by decide +kernel
theorem tri_run : Tr.run (sg tri3) 3 = some [.two 2 (.leaf 0) (.leaf 1)] := by rfl
theorem tri_deep : deepV tri3 = 2 := by
  unfold deepV
  rw [show tri3.length = 3 from rfl, tri_run]
  simp only
  rw [if_pos tri_check]; rfl
theorem tri_kids : Tr.kidsB (sg tri3) 2 = [0, 1] := by decide +kernel
theorem tri_beg : Tr.beg (sg tri3) 1 3 = 0 := by decide +kernel
set_option maxRecDepth 100000 in
set_option maxHeartbeats 2000000 in
theorem tawake_any (w : World) : Calls Try.prog 34 #[] w fun e w' => e = .returned (.bool true) ∧ Chg (fun _ => False) w w' := by
  go_enter Try.func34, Try.ntmps34
  go_wp2_with fail
  have hR := rd_block (Blk.new w 70 (cellsI tri3).toArray)
  have hC := (Chg.refl (fun _ => False) w).alloc (.cells (cellsI tri3).toArray 70)
  obtain ⟨w1, hw1⟩ : ∃ w1, w1 = w.alloc (.cells (cellsI tri3).toArray 70) := ⟨_, rfl⟩
  rw [← hw1] at hR hC
  have hw1' := Lib.hid hw1
  have HR := Lib.hid hR
  have HC := Lib.hid hC
  clear hR hC hw1
  refine Calls.mono (R := fun e w' => KidsR w1 [0, 1] e w') ?_ ?_
  · have := kids_ok w1 (some ⟨w.heap.size, 0, none⟩) 3 tri3 (by decide) HR.out 2 (by decide) tri_check
    rw [tri_kids] at this
    rw [hw1'.out] at this ⊢
    exact this
  rintro e w2 ⟨A2, c2, rfl, hlen, hrd, hch, -⟩
  obtain ⟨b2, o2, rfl, hb2, hcell⟩ := hrd.plain (by simp [intsV])
  have HC2 := Lib.hid (Chg.trans HC.out hch (fun _ _ h => h))
  have HR2 := Lib.hid (HR.out.later hch (fun _ h => h.elim))
  have k0 := hcell 0 (.int .i64 0) rfl
  have k1 := hcell 1 (.int .i64 1) rfl
  rw [Nat.add_zero] at k0
  clear hcell hrd hch
  have hck := tri_check
  have hdp := tri_deep
  have hbg := tri_beg
  replace hck := Lib.hid hck
  replace hdp := Lib.hid hdp
  replace hbg := Lib.hid hbg
  have hl3 : tri3.length = 3 := rfl
  replace hl3 := Lib.hid hl3
  go_wp2_with (first | (go_at_call 30; refine Calls.mono (check_any _ (some ⟨w.heap.size, 0, none⟩) 3 tri3 (by decide) HR2.out) ?_; rintro e w' ⟨rfl, h⟩; rw [hl3.out, hck.out]; have k0 := keep_cell h (fun _ h => h) k0; have k1 := keep_cell h (fun _ h => h) k1; have HC2 := Lib.hid (Chg.trans HC2.out h (fun _ _ h => h)); have HR2 := Lib.hid (HR2.out.later h (fun _ h => h.elim)); clear h) | (go_at_call 32; refine Calls.mono (deepF_any _ (some ⟨w.heap.size, 0, none⟩) 3 tri3 (by decide) HR2.out) ?_; rintro e w' ⟨⟨v, rfl, hv⟩, h⟩; rw [hv.val, hdp.out]; have k0 := keep_cell h (fun _ h => h) k0; have k1 := keep_cell h (fun _ h => h) k1; have HC2 := Lib.hid (Chg.trans HC2.out h (fun _ _ h => h)); have HR2 := Lib.hid (HR2.out.later h (fun _ h => h.elim)); clear h hv) | (go_at_call 35; refine Calls.mono (start_ok _ (some ⟨w.heap.size, 0, none⟩) 3 tri3 (by decide) HR2.out 2 (by decide) hck.out) ?_; rintro e w' ⟨rfl, h⟩; rw [hbg.out]; have k0 := keep_cell h (fun _ h => h) k0; have k1 := keep_cell h (fun _ h => h) k1; have HC2 := Lib.hid (Chg.trans HC2.out h (fun _ _ h => h)); have HR2 := Lib.hid (HR2.out.later h (fun _ h => h.elim)); clear h))
  go_ret
  exact ⟨rfl, HC2.out⟩
end Go.Proofs.Ytpppgnphblbbcaa
