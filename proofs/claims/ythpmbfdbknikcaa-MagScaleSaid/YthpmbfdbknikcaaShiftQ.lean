/- The contracts of package shift over 128 bits: Left, Right. -/
import Derived.Test.YthpmbfdbknikcaaShiftP
import Derived.Test.YthpmbfdbknikcaaShift2
set_option linter.unusedVariables false
set_option linter.unusedSimpArgs false
namespace Go.Proofs.Ythpmbfdbknikcaa
open Go.RowKit

/-- 128 bits shifted up -/
def left128 (A : Nat) (n : Int) : Nat := A * 2 ^ n.toNat % 2 ^ 128
theorem left_up2 {A : Nat} {n : Int} (h : 0 ≤ n) : bitsV (shiftZ A n) = bitsV (left128 A n) := by
  unfold bitsV left128 shiftZ
  rw [if_pos h, limb_mod128 0 _ (by omega), limb_mod128 1 _ (by omega)]
theorem left_no2 {A : Nat} {n : Int} (h : n ≤ 0) : bitsV (shiftZ A 0) = bitsV (left128 A n) := by
  rw [left_up2 (by omega)]; unfold left128; rw [show n.toNat = 0 by omega]; rfl
theorem right_far2 {A : Nat} (hA : W128 A) {n : Int} (h : 128 ≤ n) : shiftZ A (-128) = rightN A n := by
  have := hA.lt
  rw [shiftZ_far 2 this (by omega)]
  unfold rightN
  exact (Nat.div_eq_of_lt (Nat.lt_of_lt_of_le this (Nat.pow_le_pow_right (by omega) (by omega)))).symm

end Go.Proofs.Ythpmbfdbknikcaa
