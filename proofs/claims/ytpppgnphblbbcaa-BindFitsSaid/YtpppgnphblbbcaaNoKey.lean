/- Steps as keys of a map, and as cells. -/
import Derived.Test.YtpppgnphblbbcaaMaps
import Derived.Test.YtpppgnphblbbcaaNoPlain
import Derived.Test.YtpppgnphblbbcaaArgs
import Derived.DeepKeys4
namespace Go.Proofs.Ytpppgnphblbbcaa
open Go.RowKit
open Go.Maps (Keyed)

theorem wf_of {n : Int} (h : No.inR n) : (Lit.int .i64 n).wf = true := by
  unfold No.inR at h
  simp [Lit.wf, IntKind.min, IntKind.max, IntKind.signed, IntKind.bits]
  omega
theorem n2 : Try.prog.cellsOf 2 = 1 := by kernel_rfl
theorem n3 : Try.prog.cellsOf 3 = 1 := by kernel_rfl
theorem n75 : Try.prog.cellsOf 75 = 2 := by kernel_rfl
theorem n77 : Try.prog.cellsOf 77 = 7 := by kernel_rfl
theorem n80 : Try.prog.cellsOf 80 = 10 := by kernel_rfl
theorem lits3 (d : Nat) {n : Int} (h : No.inR n) : Try.prog.keyLits (d + 1) 3 [.int .i64 n] = some [.int .i64 n] := by
  simp [Program.keyLits, Try.underlying3, wf_of h]
theorem lits2 (d : Nat) {n : Int} (h : No.inR n) : Try.prog.keyLits (d + 1) 2 [.int .i64 n] = some [.int .i64 n] := by
  simp [Program.keyLits, Try.underlying2, wf_of h]
theorem lits_struct {P : Program} {t : TypeId} {fs : Array Field} (h : P.underlying t = some (.struct fs)) (d : Nat) (cs : List Value) : P.keyLits (d + 1) t cs = if cs.length = P.cellsOf t ∧ fs.all (·.name != "_") = true then (fs.toList.mapM fun f => P.keyLits d f.type ((cs.drop f.offset).take (P.cellsOf f.type))).map List.flatten else none := by
  conv => lhs; unfold Program.keyLits
  rw [h]
theorem lits75 (d : Nat) {a b : Int} (ha : No.inR a) (hb : No.inR b) : Try.prog.keyLits (d + 1 + 1) 75 [.int .i64 a, .int .i64 b] = some [.int .i64 a, .int .i64 b] := by
  rw [lits_struct Try.underlying75]
  simp [n75, n3, n2, lits3 d ha, lits2 d hb]
theorem lits77 (d : Nat) {x : Nm.Inst} (h : No.okI x) : Try.prog.keyLits (d + 1 + 1 + 1) 77 [.int .i64 x.op, .int .i64 x.la, .int .i64 x.lnum, .int .i64 x.ra, .int .i64 x.rnum, .int .i64 x.n, .int .i64 x.user] = some [.int .i64 x.op, .int .i64 x.la, .int .i64 x.lnum, .int .i64 x.ra, .int .i64 x.rnum, .int .i64 x.n, .int .i64 x.user] := by
  obtain ⟨h0, h1, h2, h3, h4, h5, h6⟩ := h
  rw [lits_struct Try.underlying77]
  simp [n77, n75, n3, lits3 (d + 1) h0, lits3 (d + 1) h5, lits3 (d + 1) h6, lits75 d h1 h2, lits75 d h3 h4]
def instV7 (x : Nm.Inst) : List Value := [.int .i64 x.op, .int .i64 x.la, .int .i64 x.lnum, .int .i64 x.ra, .int .i64 x.rnum, .int .i64 x.n, .int .i64 x.user]
def stpC (s : No.Stp) : List Value := [.int .i64 s.op, .int .i64 s.a, .int .i64 s.b, .int .i64 s.at_.op, .int .i64 s.at_.la, .int .i64 s.at_.lnum, .int .i64 s.at_.ra, .int .i64 s.at_.rnum, .int .i64 s.at_.n, .int .i64 s.at_.user]
def stpA (s : No.Stp) : Array Value := #[.int .i64 s.op, .int .i64 s.a, .int .i64 s.b, .int .i64 s.at_.op, .int .i64 s.at_.la, .int .i64 s.at_.lnum, .int .i64 s.at_.ra, .int .i64 s.at_.rnum, .int .i64 s.at_.n, .int .i64 s.at_.user]
theorem stpC_len (s : No.Stp) : (stpC s).length = 10 := rfl
theorem stpA_list (s : No.Stp) : (stpA s).toList = stpC s := rfl
theorem stp_inj {s t : No.Stp} (h : Value.agg (stpA s) = .agg (stpA t)) : s = t := by
  obtain ⟨a, b, c, ⟨d, e, f, g, i, j, k⟩⟩ := s
  obtain ⟨a', b', c', ⟨d', e', f', g', i', j', k'⟩⟩ := t
  simp [stpA] at h
  simp [h]
theorem lits80 (d : Nat) {s : No.Stp} (h : No.okS s) : Try.prog.keyLits (d + 1 + 1 + 1 + 1) 80 (stpC s) = some [.int .i64 s.op, .int .i64 s.a, .int .i64 s.b, .int .i64 s.at_.op, .int .i64 s.at_.la, .int .i64 s.at_.lnum, .int .i64 s.at_.ra, .int .i64 s.at_.rnum, .int .i64 s.at_.n, .int .i64 s.at_.user] := by
  obtain ⟨h0, h1, h2, h3⟩ := h
  rw [lits_struct Try.underlying80]
  simp [stpC, n80, n77, n3, lits3 (d + 1 + 1) h0, lits3 (d + 1 + 1) h1, lits3 (d + 1 + 1) h2, lits77 d h3]
theorem types_size : Try.prog.types.size + 1 = 100 + (Try.prog.types.size - 103) + 1 + 1 + 1 + 1 := by
  have h : 103 ≤ Try.prog.types.size := of_decide_eq_true (by kernel_rfl)
  omega
theorem stp_key {s : No.Stp} (h : No.okS s) : ∃ l, keyOf Try.prog 80 (.agg (stpA s)) = some l := by
  have hk : Try.prog.keyType 80 = true := by kernel_rfl
  have hf : (Value.agg (stpA s)).formed Try.prog 80 = true := by simp [Value.formed, Try.underlying80, n80, stpA]
  unfold keyOf
  rw [Try.underlying80]
  simp only [hk, hf, Bool.and_self, if_true]
  have hl : Try.prog.keyLits (Try.prog.types.size + 1) 80 (Value.agg (stpA s)).cells.toList = some [.int .i64 s.op, .int .i64 s.a, .int .i64 s.b, .int .i64 s.at_.op, .int .i64 s.at_.la, .int .i64 s.at_.lnum, .int .i64 s.at_.ra, .int .i64 s.at_.rnum, .int .i64 s.at_.n, .int .i64 s.at_.user] := by
    rw [types_size]
    exact lits80 _ h
  rw [hl]
  exact ⟨_, rfl⟩
theorem laidAll : laidOutB Try.prog = true := by kernel_rfl
theorem stp_keyed : Keyed Try.prog 80 := Keyed.of_law (deep_law_laid laidAll (m := 100) (by omega) (of_decide_eq_true (by kernel_rfl)) (by kernel_rfl) (by rw [Try.underlying80]))
end Go.Proofs.Ytpppgnphblbbcaa
