/- math/bits.Add64 and Sub64, which the model answers by itself: what a call runs to, over whole numbers. -/
import Derived.Test.YthpmbfdbknikcaaRows
import Derived.Test.YthpmbfdbknikcaaNum
import Derived.Laws.Externs
import Derived.Shelf.Spec.BitsCarry
set_option linter.unusedVariables false
set_option linter.unusedSimpArgs false
namespace Go.Proofs.Ythpmbfdbknikcaa
open Go.RowKit

def sumI (x y c : Int) : Int := (x + y + c) % 2 ^ 64
def carI (x y c : Int) : Int := (x + y + c) / 2 ^ 64
def difI (x y c : Int) : Int := (x - y - c) % 2 ^ 64
def borI (x y c : Int) : Int := if x < y + c then 1 else 0

theorem sumI_u64 (x y c : Int) : U64 (sumI x y c) := by unfold sumI; exact ⟨by omega, by omega⟩
theorem difI_u64 (x y c : Int) : U64 (difI x y c) := by unfold difI; exact ⟨by omega, by omega⟩
theorem carI_bit {x y c : Int} (hx : U64 x) (hy : U64 y) (h0 : 0 ≤ c) (h1 : c ≤ 1) : 0 ≤ carI x y c ∧ carI x y c ≤ 1 := by
  have := hx.lo; have := hx.hi; have := hy.lo; have := hy.hi
  unfold carI; omega
theorem borI_bit (x y c : Int) : 0 ≤ borI x y c ∧ borI x y c ≤ 1 := by unfold borI; split <;> omega

theorem add64_run {x y c : Int} (hx : U64 x) (hy : U64 y) (h0 : 0 ≤ c) (h1 : c ≤ 1) (w : World) :
    (callFunc 59 #[.int .u64 x, .int .u64 y, .int .u64 c]).run Try.prog w = .ok (.value (.tuple #[.int .u64 (sumI x y c), .int .u64 (carI x y c)])) w := by
  obtain ⟨x, rfl⟩ := Int.eq_ofNat_of_zero_le hx.lo
  obtain ⟨y, rfl⟩ := Int.eq_ofNat_of_zero_le hy.lo
  obtain ⟨c, rfl⟩ := Int.eq_ofNat_of_zero_le h0
  rw [run_callFunc_extern Try.func59 (by kernel_rfl) (by kernel_rfl) (by kernel_rfl) (e := add64Entry) (by kernel_rfl), run_add64 x y c (by omega) (by omega) (by omega) (by omega)]
  simp only [Result.andThen, sumI, carI]
  congr 5 <;> omega
theorem sub64_run {x y c : Int} (hx : U64 x) (hy : U64 y) (h0 : 0 ≤ c) (h1 : c ≤ 1) (w : World) :
    (callFunc 60 #[.int .u64 x, .int .u64 y, .int .u64 c]).run Try.prog w = .ok (.value (.tuple #[.int .u64 (difI x y c), .int .u64 (borI x y c)])) w := by
  have hxl := hx.lo
  have hxh := hx.hi
  have hyl := hy.lo
  have hyh := hy.hi
  obtain ⟨x, rfl⟩ := Int.eq_ofNat_of_zero_le hxl
  obtain ⟨y, rfl⟩ := Int.eq_ofNat_of_zero_le hyl
  obtain ⟨c, rfl⟩ := Int.eq_ofNat_of_zero_le h0
  rw [run_callFunc_extern Try.func60 (by kernel_rfl) (by kernel_rfl) (by kernel_rfl) (e := sub64Entry) (by kernel_rfl), run_sub64 x y c (by omega)]
  have e1 : ((x + 18446744073709551616 - y - c) % 18446744073709551616 : Nat) = difI x y c := by unfold difI; omega
  have e2 : ((if x < y + c then 1 else 0 : Nat) : Int) = borI x y c := by
    unfold borI
    by_cases h : x < y + c
    · rw [if_pos h, if_pos (by omega)]; rfl
    · rw [if_neg h, if_neg (by omega)]; rfl
  rw [e1, e2]; rfl
end Go.Proofs.Ythpmbfdbknikcaa
