/- The walk of awake, and of TableSums. -/
import Derived.Test.YtjdchelgpniliaaNew
namespace Go.Proofs.Ytjdchelgpniliaa
open Go.RowKit

theorem sumN_empty : ((Tb.sumN (⟨#[]⟩ : ByteArray).data.toList : Nat) : Int) = 2166136261 := by
  have : Tb.sumN (⟨#[]⟩ : ByteArray).data.toList = 2166136261 := by decide +kernel
  omega
theorem sumN_a : ((Tb.sumN (⟨#[97]⟩ : ByteArray).data.toList : Nat) : Int) = 3826002220 := by
  have : Tb.sumN (⟨#[97]⟩ : ByteArray).data.toList = 3826002220 := by decide +kernel
  omega
theorem sumT_empty : (((Tb.sumN (⟨#[]⟩ : ByteArray).data.toList : Nat) : Int) == 2166136261) = true := by rw [sumN_empty]; simp only [BEq.rfl]
theorem sumT_a : (((Tb.sumN (⟨#[97]⟩ : ByteArray).data.toList : Nat) : Int) == 3826002220) = true := by rw [sumN_a]; simp only [BEq.rfl]

theorem TabAt.drewN {w : World} {b hb m : Nat} {nv tv : Value} {hs nx : List Int} {ts : List ByteArray} (h : TabAt w b hb m nv tv hs nx ts) (n : Nat) : TabAt (w.drewN n) b hb m nv tv hs nx ts :=
  ⟨h.str, h.heads, h.nxo, h.txo, h.apart, h.pow, h.few, h.chain, h.distinct⟩
theorem TabAt.chg {S : Nat → Prop} {w w' : World} {b hb m : Nat} {nv tv : Value} {hs nx : List Int} {ts : List ByteArray} (h : TabAt w b hb m nv tv hs nx ts) (hc : Chg S w w') (hd : ∀ k, TabFoot b hb nv tv k → ¬ S k) : TabAt w' b hb m nv tv hs nx ts :=
  ⟨h.str.chg hc (hd b (.inl rfl)), h.heads.chg hc (hd hb (.inr (.inl rfl))), own_chg h.nxo hc (fun g hg => hd g (.inr (.inr (.inl hg)))), own_chg h.txo hc (fun g hg => hd g (.inr (.inr (.inr hg)))), h.apart, h.pow, h.few, h.chain, h.distinct⟩
theorem TabAt.foot_lt {w : World} {b hb m : Nat} {nv tv : Value} {hs nx : List Int} {ts : List ByteArray} (h : TabAt w b hb m nv tv hs nx ts) {k : Nat} (hk : TabFoot b hb nv tv k) : k < w.heap.size := by
  rcases hk with rfl | rfl | e | e
  · exact h.str.lt
  · exact h.heads.lt
  · exact own_lt h.nxo k e
  · exact own_lt h.txo k e
theorem TabAt.len {w : World} {b hb m : Nat} {nv tv : Value} {hs nx : List Int} {ts : List ByteArray} (h : TabAt w b hb m nv tv hs nx ts) : ∃ A c, w.cell? ⟨b, 2, none⟩ = some (.slice A ts.length c) := by
  obtain ⟨A, c, rfl, _⟩ := own_slice h.txo
  exact ⟨A, c, by rw [h.str.cell]; rfl⟩

set_option maxHeartbeats 400000 in
theorem awake_any (w : World) : Calls Try.prog 7 #[] w fun e w' => e = .returned (.bool true) ∧ Chg (fun _ => False) w w' := by
  have h0 : (⟨#[]⟩ : ByteArray).size ≤ maxLen := by decide
  have h1 : (⟨#[97]⟩ : ByteArray).size ≤ maxLen := by decide
  have s0 := sumT_empty
  have s1 := sumT_a
  have H1 := Lib.hid h1
  go_enter Try.func7, Try.ntmps7
  go_wp2_with fail
  refine (new_any _ _).mono ?_
  rintro e w1 ⟨rfl, hN⟩
  obtain ⟨m, hT, hC, hsz⟩ := hN
  have HT := Lib.hid hT
  have HC := Lib.hid hC
  clear hT hC
  go_wp2_with fail
  refine (put_new _ _ _ _ _ _ _ _ _ _ h1 HT.out (by simp) (by simp)).mono ?_
  rintro e w2 ⟨rfl, hP⟩
  obtain ⟨nv, tv, hs, nx, hT2, hC2, hF2⟩ := hP
  have HT2 := Lib.hid hT2
  have HC2 : Hid (Chg (fun _ => False) w w2) := Chg.trans HC.out hC2 (fun i hi hk => by
    rcases hk with rfl | rfl | e | e
    · omega
    · omega
    · simp [Value.ownBlock] at e
    · simp [Value.ownBlock] at e)
  clear hT2 hC2 hF2
  simp only [List.length_nil, List.nil_append] at HT2 ⊢
  go_wp2_with fail
  refine (put_old _ _ _ _ _ _ _ _ _ _ 0 h1 HT2.out rfl).mono ?_
  rintro e w3 ⟨rfl, n3, rfl⟩
  obtain ⟨A, c, hlen⟩ := HT2.out.len
  have hlen : w2.cell? ⟨w.heap.size + 1, 2, none⟩ = some (.slice A 1 c) := hlen
  go_wp2_with (first | (go_at_call 8; refine (sum_any _ _ (by first | exact h0 | exact h1)).mono ?_; rintro e w' ⟨rfl, rfl⟩) | (go_at_call 13; refine (len_any _ _ _ _ _ (by exact hlen)).mono ?_; rintro e w' ⟨rfl, rfl⟩))
  go_ret
  exact ⟨rfl, HC2.out.drewN _⟩

set_option maxHeartbeats 400000 in
theorem law_sums (w : World) (s : ByteArray) (hs : s.size ≤ maxLen) : Calls Try.prog 3 #[.string s] w fun e w' => e = .returned (.bool true) ∧ Chg (fun _ => False) w w' := by
  have hlt := Tb.sumN_lt s.data.toList
  by_cases h : 3000 < s.size
  · go_enter Try.func3, Try.ntmps3
    go_wp2_with (go_at_call 7; refine (awake_any _).mono ?_; rintro e w' ⟨rfl, hC⟩)
    go_ret
    exact ⟨rfl, hC⟩
  · have hb : ((Tb.sumN s.data.toList : Int) == (Tb.sumN s.data.toList : Int)) = true := by simp
    go_enter Try.func3, Try.ntmps3
    go_wp2_with (first | (go_at_call 8; refine (sum_any _ _ hs).mono ?_; rintro e w' ⟨rfl, rfl⟩) | (go_at_call 9; refine (refSum_any _ _ hs).mono ?_; rintro e w' ⟨rfl, rfl⟩) | (go_at_call 7; refine (awake_any _).mono ?_; rintro e w' ⟨rfl, hC⟩))
    go_ret
    exact ⟨rfl, hC⟩
end Go.Proofs.Ytjdchelgpniliaa
