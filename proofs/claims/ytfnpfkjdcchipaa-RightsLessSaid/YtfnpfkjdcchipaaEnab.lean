/- The walk of Enabled. -/
import Derived.Test.YtfnpfkjdcchipaaApart
namespace Go.Proofs.Ytfnpfkjdcchipaa
open Go.RowKit

set_option maxRecDepth 100000 in
set_option maxHeartbeats 4000000 in
theorem en_any (w : World) (m : MC) (s : SC) (e u : Int) (hG : Good w m s) : Calls Try.prog 18 #[.agg (mA m), .agg (sA s), .int .i64 e, .int .i64 u] w fun r w' => r = .returned (.bool (enB m s e u)) ∧ Chg (fun _ => False) w w' := by
  have hb := Boxes.new w m s
  have hC0 := Lib.hid (((Chg.refl (fun _ => False) w).alloc (.cells (mA m) 32)).alloc (.cells (sA s) 35))
  have HG := Lib.hid hG
  have HF := Lib.hid (fun (w' : World) (h : Chg (fun _ => False) w w') => free_any w' m s e u (hG.later h))
  have HA := Lib.hid (fun (w' : World) (h : Chg (fun _ => False) w w') => apart_any w' m s e u (hG.later h))
  obtain ⟨fv, hfv⟩ : ∃ fv, fv = freeB m s e u := ⟨_, rfl⟩
  obtain ⟨av, hav⟩ : ∃ av, av = apB m s e u := ⟨_, rfl⟩
  have hU : enB m s e u = (fv && !av) := by unfold enB; rw [hfv, hav]
  rw [hU]
  rw [← hfv] at HF
  rw [← hav] at HA
  clear hU hfv hav hG
  replace hb := Lib.hid hb
  unfold mA sA at hC0 HF HA
  unfold mA sA
  have hb2 := hb
  unfold mA sA at hb2
  go_enter Try.func18, Try.ntmps18
  go_wp2_with fail
  refine (HF.out _ hC0.out).mono ?_
  rintro r w2 ⟨rfl, h⟩
  have hB2 := hb2.out.later h
  have HC2 := Lib.hid (Chg.trans hC0.out h (fun _ _ h => h))
  clear h
  obtain ⟨e0, e1, e2, e3, e4, e5, e6, e7, e8, e9⟩ := mcells hB2.m
  obtain ⟨f0, f1, f2, f3, f4⟩ := scells hB2.s
  clear hB2
  cases fv with
  | false =>
    go_wp2
    go_ret
    exact ⟨rfl, HC2.out⟩
  | true =>
    cases av <;>
    · go_wp2_with (go_at_call 26; refine (HA.out _ HC2.out).mono ?_; rintro r w3 ⟨rfl, h⟩; have HC3 := Lib.hid (Chg.trans HC2.out h (fun _ _ h => h)); clear h)
      go_ret
      exact ⟨rfl, HC3.out⟩
end Go.Proofs.Ytfnpfkjdcchipaa
