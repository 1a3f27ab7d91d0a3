/- Results that lie in a variable of type api.Fault. -/
import Derived.Test.YtpppgnphblbbcaaLib
import Derived.Test.YtpppgnphblbbcaaRows
namespace Go.Proofs.Ytpppgnphblbbcaa
open Go.RowKit
def faultV (r : Int × Int × Int) : Value := .agg #[.int .i64 r.1, .int .i64 r.2.1, .int .i64 r.2.2]
theorem fault_ret {fn : Func} {p : Tmp} (h : fn.results = #[.cell p 29]) {R : Ending → World → Prop} {a : Act} {w : World} {g : Nat} {e ln cl : Int} (ht : a.tmps.getD p undef = .pointer (some ⟨g, 0, none⟩))
    (hB : Blk w g 29 #[.int .i64 e, .int .i64 ln, .int .i64 cl]) (hd : a.defers = []) (hR : R (.returned (faultV (e, ln, cl))) w) : bodyPost Try.prog fn R .ret a w := by
  refine bodyPost_ret (v := faultV (e, ln, cl)) ?_ hd hR
  simp only [results, h]
  have d0 : w.cell? ⟨g, 0, none⟩ = some (.int .i64 e) := by rw [hB.cell]; rfl
  have d1 : w.cell? ⟨g, 1, none⟩ = some (.int .i64 ln) := by rw [hB.cell]; rfl
  have d2 : w.cell? ⟨g, 2, none⟩ = some (.int .i64 cl) := by rw [hB.cell]; rfl
  have ht' : a.tmps[p]?.getD undef = .pointer (some ⟨g, 0, none⟩) := by simpa using ht
  simp [ht', go_sem, d0, d1, d2, Result.andThen, faultV]
theorem fault_ret2 {fn : Func} {q p : Tmp} (h : fn.results = #[.tmp q, .cell p 29]) {R : Ending → World → Prop} {a : Act} {w : World} {g : Nat} {e ln cl : Int} (ht : a.tmps.getD p undef = .pointer (some ⟨g, 0, none⟩))
    (hB : Blk w g 29 #[.int .i64 e, .int .i64 ln, .int .i64 cl]) (hd : a.defers = []) (hR : R (.returned (.tuple #[a.tmps.getD q undef, faultV (e, ln, cl)])) w) : bodyPost Try.prog fn R .ret a w := by
  refine bodyPost_ret (v := .tuple #[a.tmps.getD q undef, faultV (e, ln, cl)]) ?_ hd hR
  simp only [results, h]
  have d0 : w.cell? ⟨g, 0, none⟩ = some (.int .i64 e) := by rw [hB.cell]; rfl
  have d1 : w.cell? ⟨g, 1, none⟩ = some (.int .i64 ln) := by rw [hB.cell]; rfl
  have d2 : w.cell? ⟨g, 2, none⟩ = some (.int .i64 cl) := by rw [hB.cell]; rfl
  have ht' : a.tmps[p]?.getD undef = .pointer (some ⟨g, 0, none⟩) := by simpa using ht
  simp [ht', go_sem, d0, d1, d2, Result.andThen, faultV]
end Go.Proofs.Ytpppgnphblbbcaa
