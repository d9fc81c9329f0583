/- What a term, and a number in parts, are as arguments of the given rows: opened. -/
import Derived.Test.YthpmbfdbknikcaaOpen
import Derived.Test.YthpmbfdbknikcaaMag
set_option linter.unusedVariables false
set_option linter.unusedSimpArgs false
namespace Go.Proofs.Ythpmbfdbknikcaa
open Go.ChangeShapes Go.WideShapes Go.ChangeAt Go.RowKit

theorem array5 {α : Type} {cs : Array α} (h : cs.size = 5) : ∃ c0 c1 c2 c3 c4, cs = #[c0, c1, c2, c3, c4] := by
  obtain ⟨l⟩ := cs
  match l, h with
  | [c0, c1, c2, c3, c4], _ => exact ⟨c0, c1, c2, c3, c4, rfl⟩
section
variable {H : Type} {enc : TypeId × Value → H} {W : World} {base bs : Nat} {sp : Nat → Bool} {held : Bool} {r : Reach} {v : Value} {d : DataW H} {p : List MemPlace}
set_option maxRecDepth 100000 in
theorem open_term (hv : Value.okWide Try.prog W r bs 60 v) (h : DataW.Trod enc Try.prog W base sp held 60 v d p) : ∃ (x : Int) (A : Nat), v = termV x A ∧ (-9223372036854775808 ≤ x ∧ x ≤ 9223372036854775807) ∧ W256 A := by
  obtain ⟨cs, rfl, hsz⟩ := okWide_struct Try.underlying60 hv
  obtain ⟨c, c0, c1, c2, c3, rfl⟩ := array5 (hsz.trans (show Try.prog.cellsOf 60 = 5 by kernel_rfl))
  obtain ⟨fuel, hf⟩ := h
  obtain ⟨y0, y1, n, hx, _, h0, h1⟩ := trod_struct2 Try.underlying60 hf
  have f0 : (List.drop 0 (Value.cells (.agg #[c, c0, c1, c2, c3])).toList).take (Try.prog.cellsOf 3) = [c] := by rw [show Try.prog.cellsOf 3 = 1 by kernel_rfl]; rfl
  have f1 : (List.drop 1 (Value.cells (.agg #[c, c0, c1, c2, c3])).toList).take (Try.prog.cellsOf 26) = [c0, c1, c2, c3] := by rw [show Try.prog.cellsOf 26 = 4 by kernel_rfl]; rfl
  have h0' := h0
  have h1' := h1
  simp only [f0] at h0'
  simp only [f1] at h1'
  obtain ⟨x, q, _, w⟩ := DataW.trod_int Try.underlying3 h0'
  obtain ⟨y0, y1, y2, y3, m, hx, hy0, hy1, hy2, hy3⟩ := trod_array4 Try.underlying26 (show Try.prog.cellsOf 22 = 1 by kernel_rfl) h1'
  obtain ⟨x0, e0, _, w0⟩ := DataW.trod_int Try.underlying22 hy0
  obtain ⟨x1, e1, _, w1⟩ := DataW.trod_int Try.underlying22 hy1
  obtain ⟨x2, e2, _, w2⟩ := DataW.trod_int Try.underlying22 hy2
  obtain ⟨x3, e3, _, w3⟩ := DataW.trod_int Try.underlying22 hy3
  obtain rfl : c = .int .i64 x := by simpa using q
  obtain rfl : c0 = .int .u64 x0 := by simpa using e0
  obtain rfl : c1 = .int .u64 x1 := by simpa using e1
  obtain rfl : c2 = .int .u64 x2 := by simpa using e2
  obtain rfl : c3 = .int .u64 x3 := by simpa using e3
  have hb := IsWide.val (u64_of_wf w0) (u64_of_wf w1) (u64_of_wf w2) (u64_of_wf w3)
  exact ⟨x, val4 x0 x1 x2 x3, by rw [termV, ← hb.e0, ← hb.e1, ← hb.e2, ← hb.e3], wf_i64 w, hb.w⟩
set_option maxRecDepth 100000 in
theorem open_num (hv : Value.okWide Try.prog W r bs 72 v) (h : DataW.Trod enc Try.prog W base sp held 72 v d p) :
    ∃ (ng : Bool) (cl ex : Int) (S : Nat), v = .agg #[.bool ng, .int .u8 cl, .int .i64 ex, .int .u64 (limb 1 S), .int .u64 (limb 0 S)] ∧ (-9223372036854775808 ≤ ex ∧ ex ≤ 9223372036854775807) ∧ W128 S := by
  obtain ⟨cs, rfl, hsz⟩ := okWide_struct Try.underlying72 hv
  obtain ⟨c0, c1, c2, c3, c4, rfl⟩ := array5 (hsz.trans (show Try.prog.cellsOf 72 = 5 by kernel_rfl))
  obtain ⟨fuel, hf⟩ := h
  obtain ⟨y0, y1, y2, y3, n, hx, _, h0, h1, h2, h3⟩ := Joins.trod_struct4 Try.underlying72 hf
  have e0 : (List.drop 0 (Value.cells (.agg #[c0, c1, c2, c3, c4])).toList).take (Try.prog.cellsOf 4) = [c0] := by rw [show Try.prog.cellsOf 4 = 1 by kernel_rfl]; rfl
  have e1 : (List.drop 1 (Value.cells (.agg #[c0, c1, c2, c3, c4])).toList).take (Try.prog.cellsOf 70) = [c1] := by rw [show Try.prog.cellsOf 70 = 1 by kernel_rfl]; rfl
  have e2 : (List.drop 2 (Value.cells (.agg #[c0, c1, c2, c3, c4])).toList).take (Try.prog.cellsOf 3) = [c2] := by rw [show Try.prog.cellsOf 3 = 1 by kernel_rfl]; rfl
  have e3 : (List.drop 3 (Value.cells (.agg #[c0, c1, c2, c3, c4])).toList).take (Try.prog.cellsOf 24) = [c3, c4] := by rw [show Try.prog.cellsOf 24 = 2 by kernel_rfl]; rfl
  have h0' := h0
  have h1' := h1
  have h2' := h2
  have h3' := h3
  simp only [e0] at h0'
  simp only [e1] at h1'
  simp only [e2] at h2'
  simp only [e3] at h3'
  obtain ⟨ng, q0, _⟩ := DataW.trod_bool Try.underlying4 h0'
  obtain ⟨cl, q1, _, w1⟩ := DataW.trod_int Try.underlying70 h1'
  obtain ⟨ex, q2, _, w2⟩ := DataW.trod_int Try.underlying3 h2'
  obtain ⟨z0, z1, m, hz, _, g0, g1⟩ := trod_struct2 Try.underlying24 h3'
  have f0 : (List.drop 0 [c3, c4]).take (Try.prog.cellsOf 22) = [c3] := by rw [show Try.prog.cellsOf 22 = 1 by kernel_rfl]; rfl
  have f1 : (List.drop 1 [c3, c4]).take (Try.prog.cellsOf 22) = [c4] := by rw [show Try.prog.cellsOf 22 = 1 by kernel_rfl]; rfl
  have g0' := g0
  have g1' := g1
  simp only [f0] at g0'
  simp only [f1] at g1'
  obtain ⟨a1, p1, _, v1⟩ := DataW.trod_int Try.underlying22 g0'
  obtain ⟨a0, p0, _, v0⟩ := DataW.trod_int Try.underlying22 g1'
  obtain rfl : c0 = .bool ng := by simpa using q0
  obtain rfl : c1 = .int .u8 cl := by simpa using q1
  obtain rfl : c2 = .int .i64 ex := by simpa using q2
  obtain rfl : c3 = .int .u64 a1 := by simpa using p1
  obtain rfl : c4 = .int .u64 a0 := by simpa using p0
  have hb := IsBits.val (u64_of_wf v1) (u64_of_wf v0)
  exact ⟨ng, cl, ex, val2 a0 a1, by rw [← hb.hi, ← hb.lo], wf_i64 w2, hb.w⟩
end
end Go.Proofs.Ythpmbfdbknikcaa
