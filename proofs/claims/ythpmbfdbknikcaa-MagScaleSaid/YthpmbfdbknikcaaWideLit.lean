/- The contracts of package wide at given numbers: for the examples. -/
import Derived.Test.YthpmbfdbknikcaaWideMul
import Derived.Test.YthpmbfdbknikcaaWordLit
set_option linter.unusedVariables false
set_option linter.unusedSimpArgs false
namespace Go.Proofs.Ythpmbfdbknikcaa
open Go.RowKit

def litWide (R : Nat) (r0 r1 r2 r3 : Int) : Bool := decide (limb 0 R = r0) && decide (limb 1 R = r1) && decide (limb 2 R = r2) && decide (limb 3 R = r3)
theorem litWide_mk {R : Nat} {r0 r1 r2 r3 : Int} (h : litWide R r0 r1 r2 r3 = true) : wideV R = .agg #[.int .u64 r0, .int .u64 r1, .int .u64 r2, .int .u64 r3] := by
  unfold litWide at h; simp only [Bool.and_eq_true, decide_eq_true_eq] at h
  unfold wideV; rw [h.1.1.1, h.1.1.2, h.1.2, h.2]
def isWide4 (a0 a1 a2 a3 : Int) : Bool := isU64 a0 && isU64 a1 && isU64 a2 && isU64 a3
theorem isWide4_mk {a0 a1 a2 a3 : Int} (h : isWide4 a0 a1 a2 a3 = true) : IsWide a0 a1 a2 a3 (val4 a0 a1 a2 a3) := by
  unfold isWide4 at h; simp only [Bool.and_eq_true] at h
  exact IsWide.val (isU64_mk h.1.1.1) (isU64_mk h.1.1.2) (isU64_mk h.1.2) (isU64_mk h.2)
def isBits2 (a1 a0 : Int) : Bool := isU64 a1 && isU64 a0
theorem isBits2_mk {a1 a0 : Int} (h : isBits2 a1 a0 = true) : IsBits a1 a0 (val2 a0 a1) := by
  unfold isBits2 at h; simp only [Bool.and_eq_true] at h
  exact IsBits.val (isU64_mk h.1) (isU64_mk h.2)
theorem AddW_lit (a0 a1 a2 a3 b0 b1 b2 b3 r0 r1 r2 r3 : Int) (c : Bool) (h : (isWide4 a0 a1 a2 a3 && isWide4 b0 b1 b2 b3 && litWide (add256 (val4 a0 a1 a2 a3) (val4 b0 b1 b2 b3)) r0 r1 r2 r3 && (carry256 (val4 a0 a1 a2 a3) (val4 b0 b1 b2 b3) == c)) = true) (w : World) :
    Calls Try.prog 40 #[.agg #[.int .u64 a0, .int .u64 a1, .int .u64 a2, .int .u64 a3], .agg #[.int .u64 b0, .int .u64 b1, .int .u64 b2, .int .u64 b3]] w fun e w' => e = .returned (.tuple #[.agg #[.int .u64 r0, .int .u64 r1, .int .u64 r2, .int .u64 r3], .bool c]) ∧ Below w.heap.size w w' := by
  simp only [Bool.and_eq_true, beq_iff_eq, decide_eq_true_eq] at h
  obtain ⟨⟨⟨h1, h2⟩, h3⟩, hc⟩ := h
  refine (AddW_at (isWide4_mk h1) (isWide4_mk h2) w).mono fun e w' ⟨he, hk⟩ => ⟨?_, hk⟩
  rw [he, litWide_mk h3, hc]
theorem SubW_lit (a0 a1 a2 a3 b0 b1 b2 b3 r0 r1 r2 r3 : Int) (c : Bool) (h : (isWide4 a0 a1 a2 a3 && isWide4 b0 b1 b2 b3 && litWide (sub256 (val4 a0 a1 a2 a3) (val4 b0 b1 b2 b3)) r0 r1 r2 r3 && (ltB (val4 a0 a1 a2 a3) (val4 b0 b1 b2 b3) == c)) = true) (w : World) :
    Calls Try.prog 42 #[.agg #[.int .u64 a0, .int .u64 a1, .int .u64 a2, .int .u64 a3], .agg #[.int .u64 b0, .int .u64 b1, .int .u64 b2, .int .u64 b3]] w fun e w' => e = .returned (.tuple #[.agg #[.int .u64 r0, .int .u64 r1, .int .u64 r2, .int .u64 r3], .bool c]) ∧ Below w.heap.size w w' := by
  simp only [Bool.and_eq_true, beq_iff_eq, decide_eq_true_eq] at h
  obtain ⟨⟨⟨h1, h2⟩, h3⟩, hc⟩ := h
  refine (SubW_at (isWide4_mk h1) (isWide4_mk h2) w).mono fun e w' ⟨he, hk⟩ => ⟨?_, hk⟩
  rw [he, litWide_mk h3, hc]
theorem CmpW_lit (a0 a1 a2 a3 b0 b1 b2 b3 c : Int) (h : (isWide4 a0 a1 a2 a3 && isWide4 b0 b1 b2 b3 && decide (cmpN (val4 a0 a1 a2 a3) (val4 b0 b1 b2 b3) = c)) = true) (w : World) :
    Calls Try.prog 44 #[.agg #[.int .u64 a0, .int .u64 a1, .int .u64 a2, .int .u64 a3], .agg #[.int .u64 b0, .int .u64 b1, .int .u64 b2, .int .u64 b3]] w fun e w' => e = .returned (.int .i64 c) ∧ Below w.heap.size w w' := by
  simp only [Bool.and_eq_true, beq_iff_eq, decide_eq_true_eq] at h
  obtain ⟨⟨h1, h2⟩, h3⟩ := h
  refine (CmpW_at (isWide4_mk h1) (isWide4_mk h2) w).mono fun e w' ⟨he, hk⟩ => ⟨?_, hk⟩
  rw [he, h3]
theorem ZeroW_lit (a0 a1 a2 a3 : Int) (c : Bool) (h : (isWide4 a0 a1 a2 a3 && (zeroB (val4 a0 a1 a2 a3) == c)) = true) (w : World) :
    Calls Try.prog 45 #[.agg #[.int .u64 a0, .int .u64 a1, .int .u64 a2, .int .u64 a3]] w fun e w' => e = .returned (.bool c) ∧ Below w.heap.size w w' := by
  simp only [Bool.and_eq_true, beq_iff_eq, decide_eq_true_eq] at h
  obtain ⟨h1, hc⟩ := h
  refine (ZeroW_at (isWide4_mk h1) w).mono fun e w' ⟨he, hk⟩ => ⟨?_, hk⟩
  rw [he, hc]
theorem MulW_lit (a1 a0 b1 b0 r0 r1 r2 r3 : Int) (h : (isBits2 a1 a0 && isBits2 b1 b0 && litWide ((val2 a0 a1) * (val2 b0 b1)) r0 r1 r2 r3) = true) (w : World) :
    Calls Try.prog 17 #[.agg #[.int .u64 a1, .int .u64 a0], .agg #[.int .u64 b1, .int .u64 b0]] w fun e w' => e = .returned (.agg #[.int .u64 r0, .int .u64 r1, .int .u64 r2, .int .u64 r3]) ∧ Below w.heap.size w w' := by
  simp only [Bool.and_eq_true, beq_iff_eq, decide_eq_true_eq] at h
  obtain ⟨⟨h1, h2⟩, h3⟩ := h
  refine (MulW_at (isBits2_mk h1) (isBits2_mk h2) w).mono fun e w' ⟨he, hk⟩ => ⟨?_, hk⟩
  rw [he, mulN_def, litWide_mk h3]
theorem Join_lit (a1 a0 b1 b0 r0 r1 r2 r3 : Int) (h : (isBits2 a1 a0 && isBits2 b1 b0 && litWide ((val2 a0 a1) * 2 ^ 128 + (val2 b0 b1)) r0 r1 r2 r3) = true) (w : World) :
    Calls Try.prog 25 #[.agg #[.int .u64 a1, .int .u64 a0], .agg #[.int .u64 b1, .int .u64 b0]] w fun e w' => e = .returned (.agg #[.int .u64 r0, .int .u64 r1, .int .u64 r2, .int .u64 r3]) ∧ Below w.heap.size w w' := by
  simp only [Bool.and_eq_true, beq_iff_eq, decide_eq_true_eq] at h
  obtain ⟨⟨h1, h2⟩, h3⟩ := h
  refine (Join_at (isBits2_mk h1) (isBits2_mk h2) w).mono fun e w' ⟨he, hk⟩ => ⟨?_, hk⟩
  rw [he, joinN_def, litWide_mk h3]
end Go.Proofs.Ythpmbfdbknikcaa
