/- Plain laws of sums, differences, products and orders in 128 bits. No program is in sight. -/
import Derived.Test.YthpmbfdbknikcaaNum
set_option linter.unusedVariables false
set_option linter.unusedSimpArgs false
namespace Go.Proofs.Ythpmbfdbknikcaa

theorem add_sub128 {A B : Nat} (hA : W128 A) (hB : W128 B) : sub128 (add128 A B) B = A := by
  have := hA.lt; have := hB.lt; unfold sub128 add128; omega
theorem lt_add128 {A B : Nat} (hA : W128 A) (hB : W128 B) : ltB (add128 A B) B = carry128 A B := by
  have := hA.lt; have := hB.lt; unfold ltB add128 carry128; rw [decide_eq_decide]; omega
theorem add_comm128 (A B : Nat) : add128 B A = add128 A B := by unfold add128; rw [Nat.add_comm]
theorem carry_comm128 (A B : Nat) : carry128 B A = carry128 A B := by unfold carry128; rw [Nat.add_comm]
theorem add_assoc128 (A B C : Nat) : add128 (add128 A B) C = add128 A (add128 B C) := by unfold add128; omega
theorem cmp_lt {A B : Nat} (h : A < B) : cmpN A B = -1 := by unfold cmpN cmpI; rw [if_pos (by omega)]
theorem cmp_gt {A B : Nat} (h : B < A) : cmpN A B = 1 := by unfold cmpN cmpI; rw [if_neg (by omega), if_pos (by omega)]
theorem cmp_eq (A : Nat) : cmpN A A = 0 := by unfold cmpN cmpI; rw [if_neg (by omega), if_neg (by omega)]
theorem cmp_le {A B : Nat} : cmpN A B ≤ 0 ↔ A ≤ B := by unfold cmpN cmpI; split <;> (try split) <;> omega
theorem cmp_neg {A B : Nat} : cmpN A B < 0 ↔ A < B := by unfold cmpN cmpI; split <;> (try split) <;> omega
theorem cmp_carry128 {A B : Nat} (hA : W128 A) (hB : W128 B) : decide (cmpN (add128 A B) A < 0) = carry128 A B := by
  have := hA.lt; have := hB.lt
  unfold carry128; rw [decide_eq_decide, cmp_neg]; unfold add128; omega
theorem lt_true {A B : Nat} (h : A < B) : ltB A B = true := decide_eq_true h
theorem lt_false {A B : Nat} (h : B ≤ A) : ltB A B = false := decide_eq_false (by omega)
theorem limbs_ne128 {A B : Nat} (hA : W128 A) (hB : W128 B) (h : A ≠ B) : limb 1 A = limb 1 B → ¬ limb 0 A = limb 0 B := fun h1 h0 => by
  have e := val2_limb A hA.lt
  rw [h1, h0, val2_limb B hB.lt] at e
  exact h e.symm
theorem limbs_ne256 {A B : Nat} (hA : W256 A) (hB : W256 B) (h : A ≠ B) : limb 0 A = limb 0 B → limb 1 A = limb 1 B → limb 2 A = limb 2 B → ¬ limb 3 A = limb 3 B := fun h0 h1 h2 h3 => by
  have e := val4_limb A hA.lt
  rw [h0, h1, h2, h3, val4_limb B hB.lt] at e
  exact h e.symm
theorem limb0_small {a : Nat} (h : a < 2 ^ 64) : limb 0 a = a := by unfold limb; omega
theorem limb_small {a : Nat} (i : Nat) (h : a < 2 ^ 64) : limb (i + 1) a = 0 := by
  unfold limb
  rw [Nat.div_eq_of_lt (Nat.lt_of_lt_of_le h (Nat.pow_le_pow_right (by omega) (by omega)))]; rfl
theorem mul_w {a b : Nat} (ha : a < 2 ^ 64) (hb : b < 2 ^ 64) : W128 (a * b) := ⟨by
  have := Nat.mul_lt_mul'' ha hb; omega⟩
theorem mul_sum {a b c : Nat} (hb : b + c < 2 ^ 64) (ha : a < 2 ^ 64) : add128 (a * b) (a * c) = a * (b + c) := by
  have := (mul_w ha hb).lt
  unfold add128; rw [← Nat.mul_add, Nat.mod_eq_of_lt this]
theorem mul_over {a b c s : Nat} (hs : s + 2 ^ 64 = b + c) : add128 (a * s) (val2 0 a) = add128 (a * b) (a * c) := by
  unfold add128 val2
  rw [← Nat.mul_add, ← hs, Nat.mul_add]; simp
end Go.Proofs.Ythpmbfdbknikcaa
