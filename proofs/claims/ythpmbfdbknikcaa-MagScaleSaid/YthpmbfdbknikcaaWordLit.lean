/- The contracts of package word at given numbers: for the examples. -/
import Derived.Test.YthpmbfdbknikcaaWord
set_option linter.unusedVariables false
set_option linter.unusedSimpArgs false
namespace Go.Proofs.Ythpmbfdbknikcaa
open Go.RowKit

def isU64 (a : Int) : Bool := decide (0 ≤ a) && decide (a < 2 ^ 64)
theorem isU64_mk {a : Int} (h : isU64 a = true) : U64 a := by unfold isU64 at h; simp only [Bool.and_eq_true, decide_eq_true_eq] at h; exact ⟨h.1, h.2⟩
def litBits (R : Nat) (r1 r0 : Int) : Bool := decide (limb 1 R = r1) && decide (limb 0 R = r0)
theorem litBits_mk {R : Nat} {r1 r0 : Int} (h : litBits R r1 r0 = true) : bitsV R = .agg #[.int .u64 r1, .int .u64 r0] := by
  unfold litBits at h; simp only [Bool.and_eq_true, decide_eq_true_eq] at h
  unfold bitsV; rw [h.1, h.2]

theorem Add_lit (a1 a0 b1 b0 r1 r0 : Int) (c : Bool) (h : (isU64 a1 && isU64 a0 && isU64 b1 && isU64 b0 && litBits (add128 (val2 a0 a1) (val2 b0 b1)) r1 r0 && (carry128 (val2 a0 a1) (val2 b0 b1) == c)) = true) (w : World) :
    Calls Try.prog 27 #[.agg #[.int .u64 a1, .int .u64 a0], .agg #[.int .u64 b1, .int .u64 b0]] w fun e w' =>
      e = .returned (.tuple #[.agg #[.int .u64 r1, .int .u64 r0], .bool c]) ∧ Below w.heap.size w w' := by
  simp only [Bool.and_eq_true, beq_iff_eq] at h
  obtain ⟨⟨⟨⟨⟨h1, h0⟩, g1⟩, g0⟩, hr⟩, hc⟩ := h
  refine (Add_at (IsBits.val (isU64_mk h1) (isU64_mk h0)) (IsBits.val (isU64_mk g1) (isU64_mk g0)) w).mono fun e w' ⟨he, hk⟩ => ⟨?_, hk⟩
  rw [he, litBits_mk hr, hc]
theorem Sub_lit (a1 a0 b1 b0 r1 r0 : Int) (c : Bool) (h : (isU64 a1 && isU64 a0 && isU64 b1 && isU64 b0 && litBits (sub128 (val2 a0 a1) (val2 b0 b1)) r1 r0 && (ltB (val2 a0 a1) (val2 b0 b1) == c)) = true) (w : World) :
    Calls Try.prog 28 #[.agg #[.int .u64 a1, .int .u64 a0], .agg #[.int .u64 b1, .int .u64 b0]] w fun e w' =>
      e = .returned (.tuple #[.agg #[.int .u64 r1, .int .u64 r0], .bool c]) ∧ Below w.heap.size w w' := by
  simp only [Bool.and_eq_true, beq_iff_eq] at h
  obtain ⟨⟨⟨⟨⟨h1, h0⟩, g1⟩, g0⟩, hr⟩, hc⟩ := h
  refine (Sub_at (IsBits.val (isU64_mk h1) (isU64_mk h0)) (IsBits.val (isU64_mk g1) (isU64_mk g0)) w).mono fun e w' ⟨he, hk⟩ => ⟨?_, hk⟩
  rw [he, litBits_mk hr, hc]
theorem Mul_lit (x y r1 r0 : Int) (h : (isU64 x && isU64 y && litBits (x.toNat * y.toNat) r1 r0) = true) (w : World) :
    Calls Try.prog 33 #[.int .u64 x, .int .u64 y] w fun e w' =>
      e = .returned (.agg #[.int .u64 r1, .int .u64 r0]) ∧ Below w.heap.size w w' := by
  simp only [Bool.and_eq_true] at h
  obtain ⟨⟨h1, h0⟩, hr⟩ := h
  refine (Mul_any (isU64_mk h1) (isU64_mk h0) w).mono fun e w' ⟨he, hk⟩ => ⟨?_, hk⟩
  rw [he, litBits_mk hr]
theorem Cmp_lit (a1 a0 b1 b0 : Int) (c : Int) (h : (isU64 a1 && isU64 a0 && isU64 b1 && isU64 b0 && decide (cmpN (val2 a0 a1) (val2 b0 b1) = c)) = true) (w : World) :
    Calls Try.prog 36 #[.agg #[.int .u64 a1, .int .u64 a0], .agg #[.int .u64 b1, .int .u64 b0]] w fun e w' =>
      e = .returned (.int .i64 c) ∧ Below w.heap.size w w' := by
  simp only [Bool.and_eq_true, decide_eq_true_eq] at h
  obtain ⟨⟨⟨⟨h1, h0⟩, g1⟩, g0⟩, hc⟩ := h
  refine (Cmp_at (IsBits.val (isU64_mk h1) (isU64_mk h0)) (IsBits.val (isU64_mk g1) (isU64_mk g0)) w).mono fun e w' ⟨he, hk⟩ => ⟨?_, hk⟩
  rw [he, hc]
theorem Bit_lit (a1 a0 i : Int) (c : Bool) (h : (isU64 a1 && isU64 a0 && (bitZ (val2 a0 a1) i == c)) = true) (w : World) :
    Calls Try.prog 37 #[.agg #[.int .u64 a1, .int .u64 a0], .int .i64 i] w fun e w' =>
      e = .returned (.bool c) ∧ Below w.heap.size w w' := by
  simp only [Bool.and_eq_true, beq_iff_eq] at h
  obtain ⟨⟨h1, h0⟩, hc⟩ := h
  refine (Bit_at (IsBits.val (isU64_mk h1) (isU64_mk h0)) i w).mono fun e w' ⟨he, hk⟩ => ⟨?_, hk⟩
  rw [he, hc]
theorem Zero_lit (a1 a0 : Int) (c : Bool) (h : (isU64 a1 && isU64 a0 && (zeroB (val2 a0 a1) == c)) = true) (w : World) :
    Calls Try.prog 39 #[.agg #[.int .u64 a1, .int .u64 a0]] w fun e w' =>
      e = .returned (.bool c) ∧ Below w.heap.size w w' := by
  simp only [Bool.and_eq_true, beq_iff_eq] at h
  obtain ⟨⟨h1, h0⟩, hc⟩ := h
  refine (Zero_at (IsBits.val (isU64_mk h1) (isU64_mk h0)) w).mono fun e w' ⟨he, hk⟩ => ⟨?_, hk⟩
  rw [he, hc]
end Go.Proofs.Ythpmbfdbknikcaa
