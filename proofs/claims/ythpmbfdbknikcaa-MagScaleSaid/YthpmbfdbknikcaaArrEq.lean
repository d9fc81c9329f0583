/- '==' and '!=' of two arrays of four 64-bit numbers: what they run to. -/
import Derived.Test.YthpmbfdbknikcaaRows
import Derived.WalkKit
import Derived.Laws.StructEq
import Derived.Test.YthpmbfdbknikcaaNum1
set_option linter.unusedVariables false
set_option linter.unusedSimpArgs false
namespace Go.Proofs.Ythpmbfdbknikcaa
open Go.RowKit

theorem size64 (w : World) : (Go.sizeOf 22).run Try.prog w = .ok 1 w := by kernel_rfl
theorem part64 (xs : Array Value) (i : Nat) (v : Value) (h : xs[i]? = some v) (w : World) : (part 22 xs i).run Try.prog w = .ok v w := by
  simp [part, go_sem, h]
theorem equalIn_arr4 (d : Nat) (a0 a1 a2 a3 b0 b1 b2 b3 : Int) (w : World) :
    (Op.equalIn (d + 2) 26 (.agg #[.int .u64 a0, .int .u64 a1, .int .u64 a2, .int .u64 a3]) (.agg #[.int .u64 b0, .int .u64 b1, .int .u64 b2, .int .u64 b3])).run Try.prog w = .ok (a0 == b0 && (a1 == b1 && (a2 == b2 && a3 == b3))) w := by
  rw [Op.equalIn]
  simp only [Sem.run_bind, run_underlying Try.underlying26, Result.andThen_ok, size64]
  have e := fun (x y : Int) (w : World) => run_equalIn_int (P := Try.prog) (w := w) d 22 .u64 .u64 x y Try.underlying22
  rw [Std.Legacy.Range.forIn_eq_forIn_range']
  simp only [Std.Legacy.Range.size, List.range', List.forIn_cons, Sem.run_bind, Nat.mul_one]
  have p0 := part64 #[.int .u64 a0, .int .u64 a1, .int .u64 a2, .int .u64 a3] (0) (.int .u64 a0) rfl
  have p1 := part64 #[.int .u64 a0, .int .u64 a1, .int .u64 a2, .int .u64 a3] (0 + 1) (.int .u64 a1) rfl
  have p2 := part64 #[.int .u64 a0, .int .u64 a1, .int .u64 a2, .int .u64 a3] (0 + 1 + 1) (.int .u64 a2) rfl
  have p3 := part64 #[.int .u64 a0, .int .u64 a1, .int .u64 a2, .int .u64 a3] (0 + 1 + 1 + 1) (.int .u64 a3) rfl
  have q0 := part64 #[.int .u64 b0, .int .u64 b1, .int .u64 b2, .int .u64 b3] (0) (.int .u64 b0) rfl
  have q1 := part64 #[.int .u64 b0, .int .u64 b1, .int .u64 b2, .int .u64 b3] (0 + 1) (.int .u64 b1) rfl
  have q2 := part64 #[.int .u64 b0, .int .u64 b1, .int .u64 b2, .int .u64 b3] (0 + 1 + 1) (.int .u64 b2) rfl
  have q3 := part64 #[.int .u64 b0, .int .u64 b1, .int .u64 b2, .int .u64 b3] (0 + 1 + 1 + 1) (.int .u64 b3) rfl
  cases h0 : (a0 == b0) <;> cases h1 : (a1 == b1) <;> cases h2 : (a2 == b2) <;> cases h3 : (a3 == b3) <;>
    simp only [p0, p1, p2, p3, q0, q1, q2, q3, e, h0, h1, h2, h3, Result.andThen_ok, Sem.run_bind, Sem.run_pure, Bool.not_true, Bool.not_false, Bool.false_eq_true, if_true, if_false, List.forIn_nil, Bool.and_true, Bool.and_false]

/-- are two of four parts alike? -/
def eqW (a0 a1 a2 a3 b0 b1 b2 b3 : Int) : Bool := a0 == b0 && (a1 == b1 && (a2 == b2 && a3 == b3))
/-- are two numbers alike, in 256 bits? -/
def eqN (A B : Nat) : Bool := decide (A % 2 ^ 256 = B % 2 ^ 256)
@[go_sem] theorem equal_arr4 (a0 a1 a2 a3 b0 b1 b2 b3 : Int) (w : World) :
    (Op.equalIn 10000 26 (.agg #[.int .u64 a0, .int .u64 a1, .int .u64 a2, .int .u64 a3]) (.agg #[.int .u64 b0, .int .u64 b1, .int .u64 b2, .int .u64 b3])).run Try.prog w = .ok (eqW a0 a1 a2 a3 b0 b1 b2 b3) w :=
  equalIn_arr4 9998 a0 a1 a2 a3 b0 b1 b2 b3 w
theorem eqW_true {a0 a1 a2 a3 b0 b1 b2 b3 : Int} : eqW a0 a1 a2 a3 b0 b1 b2 b3 = true ↔ a0 = b0 ∧ a1 = b1 ∧ a2 = b2 ∧ a3 = b3 := by
  unfold eqW; simp only [Bool.and_eq_true, beq_iff_eq]
theorem eqW_at {a0 a1 a2 a3 b0 b1 b2 b3 : Int} {A B : Nat} (hA : IsWide a0 a1 a2 a3 A) (hB : IsWide b0 b1 b2 b3 B) : eqW a0 a1 a2 a3 b0 b1 b2 b3 = decide (A = B) := by
  rw [Bool.eq_iff_iff, eqW_true, decide_eq_true_iff]
  constructor
  · rintro ⟨rfl, rfl, rfl, rfl⟩
    rw [← hA.v, ← hB.v]
  · rintro rfl
    exact ⟨hA.e0.trans hB.e0.symm, hA.e1.trans hB.e1.symm, hA.e2.trans hB.e2.symm, hA.e3.trans hB.e3.symm⟩
@[go_sem] theorem eqW_limb (A B : Nat) : eqW (limb 0 A) (limb 1 A) (limb 2 A) (limb 3 A) (limb 0 B) (limb 1 B) (limb 2 B) (limb 3 B) = eqN A B := by
  have hA : W256 (A % 2 ^ 256) := ⟨Nat.mod_lt _ (by omega)⟩
  have hB : W256 (B % 2 ^ 256) := ⟨Nat.mod_lt _ (by omega)⟩
  have := eqW_at (IsWide.of hA) (IsWide.of hB)
  rw [limb_mod256 0 _ (by omega), limb_mod256 1 _ (by omega), limb_mod256 2 _ (by omega), limb_mod256 3 _ (by omega), limb_mod256 0 _ (by omega), limb_mod256 1 _ (by omega), limb_mod256 2 _ (by omega), limb_mod256 3 _ (by omega)] at this
  exact this
@[go_sem] theorem eqN_self (A : Nat) : eqN A A = true := decide_eq_true rfl
theorem eqN_of {A B : Nat} (hA : W256 A) (hB : W256 B) : eqN A B = decide (A = B) := by
  unfold eqN; rw [Nat.mod_eq_of_lt hA.lt, Nat.mod_eq_of_lt hB.lt]
theorem eqN_no {A B : Nat} (hA : W256 A) (hB : W256 B) (h : A ≠ B) : eqN A B = false := by rw [eqN_of hA hB]; exact decide_eq_false h
end Go.Proofs.Ythpmbfdbknikcaa
