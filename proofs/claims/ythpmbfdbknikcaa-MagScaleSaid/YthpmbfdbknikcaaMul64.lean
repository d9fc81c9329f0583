/- math/bits.Mul64: its contract off the shelf, at this seat's numbers. -/
import Derived.Test.YthpmbfdbknikcaaRows
import Derived.Test.YthpmbfdbknikcaaNum
import Derived.Shelf.Bits.Mul64
set_option linter.unusedVariables false
set_option linter.unusedSimpArgs false
namespace Go.Proofs.Ythpmbfdbknikcaa
open Go.RowKit
def mulRen : Go.Shelf.Ren := ⟨fun | 264 => 61 | n => n, fun | 53 => 22 | 46 => 82 | n => n, fun n => n⟩
theorem mulLays : Lays.n264 Try.prog mulRen := {
  mixed := by kernel_rfl, f264 := by kernel_rfl, t46 := by kernel_rfl, a46 := fun _ => by kernel_rfl, z46 := fun _ => by kernel_rfl, v46 := fun _ => by kernel_rfl,
  t53 := by kernel_rfl, a53 := fun _ => by kernel_rfl, z53 := fun _ => by kernel_rfl, v53 := fun _ => by kernel_rfl }
theorem Mul64_any {x y : Int} (hx : U64 x) (hy : U64 y) (w : World) :
    Calls Try.prog 61 #[.int .u64 x, .int .u64 y] w fun e w' => e = .returned (.tuple #[.int .u64 (limb 1 (x.toNat * y.toNat)), .int .u64 (limb 0 (x.toNat * y.toNat))]) ∧ w = w' := by
  obtain ⟨a, rfl⟩ := Int.eq_ofNat_of_zero_le hx.lo
  obtain ⟨b, rfl⟩ := Int.eq_ofNat_of_zero_le hy.lo
  have ha : a < 18446744073709551616 := by have := hx.hi; omega
  have hb : b < 18446744073709551616 := by have := hy.hi; omega
  have hm : a * b < 18446744073709551616 * 18446744073709551616 := Nat.mul_lt_mul'' ha hb
  have e1 : limb 1 (a * b) = ((a * b / 18446744073709551616 : Nat) : Int) := by unfold limb; omega
  have e0 : limb 0 (a * b) = ((a * b % 18446744073709551616 : Nat) : Int) := by unfold limb; omega
  rw [Int.toNat_natCast, Int.toNat_natCast, e1, e0]
  exact (Any.bits_Mul64 mulLays a b ha hb w).mono fun e w' ⟨h1, h2⟩ => ⟨h1, h2.symm⟩
end Go.Proofs.Ythpmbfdbknikcaa
