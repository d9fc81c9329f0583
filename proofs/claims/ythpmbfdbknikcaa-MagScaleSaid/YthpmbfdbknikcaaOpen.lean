/- What an argument of the given rows is, opened: integers and their ranges. -/
import Derived.Test.YthpmbfdbknikcaaRows
import Derived.WalkKit
import Derived.ProofKit
import Derived.OpenShut
import Derived.Deep.Fields
import Derived.Lib.SmallJoins
import Derived.Laws.IdiomArrays
import Derived.Test.YthpmbfdbknikcaaNum
set_option linter.unusedVariables false
set_option linter.unusedSimpArgs false
namespace Go.Proofs.Ythpmbfdbknikcaa
open Go.ChangeShapes Go.WideShapes Go.ChangeAt Go.RowKit

theorem wf_u8 {a : Int} (h : (Lit.int .u8 a).wf = true) : 0 ≤ a ∧ a ≤ 255 := by simpa [Lit.wf, IntKind.min, IntKind.max, IntKind.signed, IntKind.bits] using h
theorem wf_u16 {a : Int} (h : (Lit.int .u16 a).wf = true) : 0 ≤ a ∧ a ≤ 65535 := by simpa [Lit.wf, IntKind.min, IntKind.max, IntKind.signed, IntKind.bits] using h
theorem wf_u32 {a : Int} (h : (Lit.int .u32 a).wf = true) : 0 ≤ a ∧ a ≤ 4294967295 := by simpa [Lit.wf, IntKind.min, IntKind.max, IntKind.signed, IntKind.bits] using h
theorem wf_u64 {a : Int} (h : (Lit.int .u64 a).wf = true) : 0 ≤ a ∧ a ≤ 18446744073709551615 := by simpa [Lit.wf, IntKind.min, IntKind.max, IntKind.signed, IntKind.bits] using h
theorem wf_i64 {a : Int} (h : (Lit.int .i64 a).wf = true) : -9223372036854775808 ≤ a ∧ a ≤ 9223372036854775807 := by simpa [Lit.wf, IntKind.min, IntKind.max, IntKind.signed, IntKind.bits] using h
theorem wf_i16 {a : Int} (h : (Lit.int .i16 a).wf = true) : -32768 ≤ a ∧ a ≤ 32767 := by simpa [Lit.wf, IntKind.min, IntKind.max, IntKind.signed, IntKind.bits] using h
section
variable {H : Type} {enc : TypeId × Value → H} {W : World} {base bs : Nat} {sp : Nat → Bool} {held : Bool} {r : Reach} {v : Value} {d : DataW H} {p : List MemPlace}
theorem u64_of_wf {a : Int} (h : (Lit.int .u64 a).wf = true) : U64 a := U64.mk' (wf_u64 h).1 (wf_u64 h).2
set_option maxRecDepth 100000 in
theorem open_bits (hv : Value.okWide Try.prog W r bs 24 v) (h : DataW.Trod enc Try.prog W base sp held 24 v d p) : ∃ A : Nat, v = bitsV A ∧ W128 A := by
  obtain ⟨cs, rfl, hsz⟩ := okWide_struct Try.underlying24 hv
  obtain ⟨c0, c1, rfl⟩ := Joins.array2 (hsz.trans (show Try.prog.cellsOf 24 = 2 by kernel_rfl))
  obtain ⟨fuel, hf⟩ := h
  obtain ⟨y0, y1, n, hx, _, h0, h1⟩ := trod_struct2 Try.underlying24 hf
  have e0 : (List.drop 0 (Value.cells (.agg #[c0, c1])).toList).take (Try.prog.cellsOf 22) = [c0] := by rw [show Try.prog.cellsOf 22 = 1 by kernel_rfl]; rfl
  have e1 : (List.drop 1 (Value.cells (.agg #[c0, c1])).toList).take (Try.prog.cellsOf 22) = [c1] := by rw [show Try.prog.cellsOf 22 = 1 by kernel_rfl]; rfl
  have h0' := h0
  have h1' := h1
  simp only [e0] at h0'
  simp only [e1] at h1'
  obtain ⟨a1, q1, _, w1⟩ := DataW.trod_int Try.underlying22 h0'
  obtain ⟨a0, q0, _, w0⟩ := DataW.trod_int Try.underlying22 h1'
  obtain rfl : c0 = .int .u64 a1 := by simpa using q1
  obtain rfl : c1 = .int .u64 a0 := by simpa using q0
  have hb := IsBits.val (u64_of_wf w1) (u64_of_wf w0)
  exact ⟨val2 a0 a1, by rw [bitsV, ← hb.hi, ← hb.lo], hb.w⟩
set_option maxRecDepth 100000 in
theorem open_wide (hv : Value.okWide Try.prog W r bs 26 v) (h : DataW.Trod enc Try.prog W base sp held 26 v d p) : ∃ A : Nat, v = wideV A ∧ W256 A := by
  obtain ⟨cs, rfl, hsz, _⟩ : ∃ cs, v = .agg cs ∧ cs.size = Try.prog.cellsOf 26 ∧ Row.okWide Try.prog W r bs 26 cs := by
    simpa [Value.okWide, Try.underlying26] using hv
  obtain ⟨c0, c1, c2, c3, rfl⟩ := Joins.array4 (hsz.trans (show Try.prog.cellsOf 26 = 4 by kernel_rfl))
  obtain ⟨fuel, hf⟩ := h
  obtain ⟨y0, y1, y2, y3, m, hx, hy0, hy1, hy2, hy3⟩ := trod_array4 Try.underlying26 (show Try.prog.cellsOf 22 = 1 by kernel_rfl) hf
  obtain ⟨x0, e0, _, w0⟩ := DataW.trod_int Try.underlying22 hy0
  obtain ⟨x1, e1, _, w1⟩ := DataW.trod_int Try.underlying22 hy1
  obtain ⟨x2, e2, _, w2⟩ := DataW.trod_int Try.underlying22 hy2
  obtain ⟨x3, e3, _, w3⟩ := DataW.trod_int Try.underlying22 hy3
  obtain rfl : c0 = .int .u64 x0 := by simpa using e0
  obtain rfl : c1 = .int .u64 x1 := by simpa using e1
  obtain rfl : c2 = .int .u64 x2 := by simpa using e2
  obtain rfl : c3 = .int .u64 x3 := by simpa using e3
  have hb := IsWide.val (u64_of_wf w0) (u64_of_wf w1) (u64_of_wf w2) (u64_of_wf w3)
  exact ⟨val4 x0 x1 x2 x3, by rw [wideV, ← hb.e0, ← hb.e1, ← hb.e2, ← hb.e3], hb.w⟩
end
end Go.Proofs.Ythpmbfdbknikcaa
