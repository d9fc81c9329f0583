/- The references' contracts, at what the laws ask of them. -/
import Derived.Test.YthpmbfdbknikcaaRefMul
import Derived.Test.YthpmbfdbknikcaaRefWide
import Derived.Test.YthpmbfdbknikcaaRefLow
import Derived.Test.YthpmbfdbknikcaaRefLen
import Derived.Test.YthpmbfdbknikcaaRegionN
set_option linter.unusedVariables false
set_option linter.unusedSimpArgs false
namespace Go.Proofs.Ythpmbfdbknikcaa
open Go.RowKit

theorem refFullF {n F : Nat} (h : 2 ^ n = F) {z : Int} (hz : z = n) (hn : n ≤ 65536) (w : World) :
    Calls Try.prog 29 #[.int .i64 z] w fun e w' => ∃ u, e = .returned u ∧ IsN w' u F ∧ Below w.heap.size w w' := by
  subst h; exact refFull_any n hz hn w
theorem Bits_eq {v : Value} {A B : Nat} (hE : bitsV A = bitsV B) (w : World) (h : IsN w v A) (hl : lenN A ≤ 65536) :
    Calls Try.prog 22 #[v] w fun e w' => e = .returned (bitsV B) ∧ Below w.heap.size w w' := by
  rw [← hE]; exact Bits_any w h hl
theorem refCmp_eq {x y : Value} {A B : Nat} {c : Int} (hE : cmpN A B = c) (w : World) (hx : IsN w x A) (hy : IsN w y B) (la : lenN A ≤ 4096) (lb : lenN B ≤ 4096) :
    Calls Try.prog 30 #[x, y] w fun e w' => e = .returned (.int .i64 c) ∧ Below w.heap.size w w' := by
  subst hE; exact refCmp_any w hx hy la lb
theorem bits_mod {A B : Nat} (h : A % 2 ^ 128 = B % 2 ^ 128) : bitsV A = bitsV B := by
  rw [bitsV, bitsV, ← limb_mod128 1 A (by omega), ← limb_mod128 0 A (by omega), h, limb_mod128 1 B (by omega), limb_mod128 0 B (by omega)]
theorem wide_mod {A B : Nat} (h : A % 2 ^ 256 = B % 2 ^ 256) : wideV A = wideV B := by
  rw [wideV, wideV, ← limb_mod256 0 A (by omega), ← limb_mod256 1 A (by omega), ← limb_mod256 2 A (by omega), ← limb_mod256 3 A (by omega), h, limb_mod256 0 B (by omega), limb_mod256 1 B (by omega), limb_mod256 2 B (by omega), limb_mod256 3 B (by omega)]
theorem len128 {A : Nat} (h : W128 A) : lenN A ≤ 4 := lenN_le 4 A h.lt
theorem len256 {A : Nat} (h : W256 A) : lenN A ≤ 8 := lenN_le 8 A h.lt
theorem len64 {A : Nat} (h : A < 2 ^ 64) : lenN A ≤ 2 := lenN_le 2 A h
theorem lenN_add (A B : Nat) : lenN (A + B) ≤ lenN A + lenN B + 1 := by
  apply lenN_le
  have h1 := lt_lenN A
  have h2 := lt_lenN B
  have h3 : 2 ^ (32 * lenN A) ≤ 2 ^ (32 * (lenN A + lenN B)) := Nat.pow_le_pow_right (by omega) (by omega)
  have h4 : 2 ^ (32 * lenN B) ≤ 2 ^ (32 * (lenN A + lenN B)) := Nat.pow_le_pow_right (by omega) (by omega)
  have h5 : 2 ^ (32 * (lenN A + lenN B + 1)) = 2 ^ (32 * (lenN A + lenN B)) * 2 ^ 32 := by rw [← Nat.pow_add]; congr 1
  omega
theorem lenN_sub (A B : Nat) : lenN (A - B) ≤ lenN A := lenN_mono (Nat.sub_le _ _)
theorem lenN_mod (A n : Nat) : lenN (A % n) ≤ lenN A := lenN_mono (Nat.mod_le _ _)
theorem lenN_mul (A B : Nat) : lenN (A * B) ≤ lenN A + lenN B := by
  apply lenN_le
  rw [Nat.mul_add, Nat.pow_add]
  exact Nat.mul_lt_mul_of_lt_of_le (lt_lenN A) (Nat.le_of_lt (lt_lenN B)) (Nat.two_pow_pos _)
theorem lenN_pow (n : Nat) : lenN (2 ^ n) ≤ n / 32 + 1 := lenN_le _ _ (Nat.pow_lt_pow_right (by omega) (by omega))
theorem refLen_w {v : Value} {A : Nat} {w : World} (h : IsN w v A) (hl : lenN A ≤ 65536) :
    Calls Try.prog 65 #[v] w fun e w' => e = .returned (.int .i64 ((lenB A : Nat) : Int)) ∧ Below w.heap.size w w' :=
  (refLen_any w h hl).mono fun _ _ ⟨he, hw⟩ => ⟨he, hw ▸ Below.refl _ _⟩
theorem refBit_w {v : Value} {A : Nat} {w : World} (z : Int) (hz : z ≤ 1000000) (h : IsN w v A) (hl : lenN A ≤ 65536) :
    Calls Try.prog 38 #[v, .int .i64 z] w fun e w' => e = .returned (.bool (bitZ A z)) ∧ Below w.heap.size w w' :=
  (refBit_any z hz w h hl).mono fun _ _ ⟨he, hw⟩ => ⟨he, hw ▸ Below.refl _ _⟩
theorem Low_eq {v : Value} {A B : Nat} (hE : wideV A = wideV B) (w : World) (h : IsN w v A) (hl : lenN A ≤ 65536) :
    Calls Try.prog 20 #[v] w fun e w' => e = .returned (wideV B) ∧ Below w.heap.size w w' := by
  rw [← hE]; exact refLow_any w h hl
theorem lenB_gt {A n : Nat} : n < lenB A ↔ 2 ^ n ≤ A := by
  constructor
  · intro h
    rcases Nat.lt_or_ge A (2 ^ n) with k | k
    · have := lenB_le k; omega
    · exact k
  · intro h
    rcases Nat.lt_or_ge n (lenB A) with k | k
    · exact k
    · have := lt_lenB A
      have := Nat.pow_le_pow_right (n := 2) (by omega) k
      omega
theorem cmp_ge {A B : Nat} (h : B ≤ A) : ¬ cmpN A B < 0 := by rw [cmp_neg]; omega
end Go.Proofs.Ythpmbfdbknikcaa
