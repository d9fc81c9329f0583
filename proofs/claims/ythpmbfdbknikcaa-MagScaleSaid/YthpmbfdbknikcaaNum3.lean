/- Plain arithmetic of shifts: one way and on, jammed; orders. No program is in sight. -/
import Derived.Test.YthpmbfdbknikcaaShift4
import Derived.Test.YthpmbfdbknikcaaWide
set_option linter.unusedVariables false
set_option linter.unusedSimpArgs false
namespace Go.Proofs.Ythpmbfdbknikcaa

theorem pow_two_split {x y : Int} (hx : 0 ≤ x) (hy : 0 ≤ y) : 2 ^ (x + y).toNat = 2 ^ x.toNat * 2 ^ y.toNat := by
  rw [← Nat.pow_add]; congr 1; omega
theorem right_right (A : Nat) {x y : Int} (hx : 0 ≤ x) (hy : 0 ≤ y) : rightN (rightN A x) y = rightN A (x + y) := by
  unfold rightN; rw [Nat.div_div_eq_div_mul, pow_two_split hx hy]
theorem left_left (A : Nat) {x y : Int} (hx : 0 ≤ x) (hy : 0 ≤ y) : left256 (left256 A x) y = left256 A (x + y) := by
  unfold left256; rw [Nat.mod_mul_mod, pow_two_split hx hy, Nat.mul_assoc]
theorem lost_split (A : Nat) {x y : Int} (hx : 0 ≤ x) (hy : 0 ≤ y) : lostB A (x + y) = (lostB A x || lostB (rightN A x) y) := by
  unfold lostB rightN
  rw [pow_two_split hx hy, Nat.mod_mul, Bool.eq_iff_iff, Bool.or_eq_true, decide_eq_true_iff, decide_eq_true_iff, decide_eq_true_iff]
  have hp : 0 < 2 ^ x.toNat := Nat.two_pow_pos _
  constructor
  · intro h
    by_cases h1 : A % 2 ^ x.toNat = 0
    · right; intro h2; rw [h1, h2] at h; exact h (by simp)
    · exact Or.inl h1
  · rintro (h | h) h2
    · omega
    · have := Nat.eq_zero_of_add_eq_zero_left h2
      rcases Nat.mul_eq_zero.1 this with h3 | h3
      · omega
      · exact h h3
theorem lost_zero (A : Nat) {n : Int} (h : n ≤ 0) : lostB A n = false := by
  unfold lostB; rw [show n.toNat = 0 by omega]; simp [Nat.mod_one]
theorem right_zero (A : Nat) {n : Int} (h : n ≤ 0) : rightN A n = A := by
  unfold rightN; rw [show n.toNat = 0 by omega]; simp
theorem jam_zero (A : Nat) {n : Int} (h : n ≤ 0) : jamN A n = A := by rw [jam_no (lost_zero A h), right_zero A h]
theorem odd_right (q : Nat) {y : Int} (hy : 0 < y) : rightN (oddN q) y = rightN q y := by
  unfold rightN
  obtain ⟨k, hk⟩ : ∃ k, y.toNat = k + 1 := ⟨y.toNat - 1, by omega⟩
  rw [hk, Nat.pow_succ', ← Nat.div_div_eq_div_mul, ← Nat.div_div_eq_div_mul, odd_half]
theorem odd_lost (q : Nat) {y : Int} (hy : 0 < y) : lostB (oddN q) y = true := by
  unfold lostB
  obtain ⟨k, hk⟩ : ∃ k, y.toNat = k + 1 := ⟨y.toNat - 1, by omega⟩
  rw [decide_eq_true_iff, hk, Nat.pow_succ', Nat.mod_mul]
  unfold oddN; omega
theorem odd_odd (q : Nat) : oddN (oddN q) = oddN q := by unfold oddN; omega
theorem jam_jam (A : Nat) {x y : Int} (hx : 0 ≤ x) (hy : 0 ≤ y) : jamN (jamN A x) y = jamN A (x + y) := by
  by_cases h0 : y = 0
  · subst h0; rw [jam_zero _ (by omega), Int.add_zero]
  · by_cases h : lostB A x = true
    · rw [jam_yes h, jam_yes (odd_lost _ (by omega)), odd_right _ (by omega), right_right A hx hy, jam_yes (by rw [lost_split A hx hy, h]; rfl)]
    · have h := Bool.eq_false_iff.2 h
      rw [jam_no h]
      by_cases h2 : lostB (rightN A x) y = true
      · rw [jam_yes h2, right_right A hx hy, jam_yes (by rw [lost_split A hx hy, h2, Bool.or_true])]
      · have h2 := Bool.eq_false_iff.2 h2
        rw [jam_no h2, right_right A hx hy, jam_no (by rw [lost_split A hx hy, h, h2]; rfl)]
theorem right_mono {A B : Nat} (h : A ≤ B) (n : Int) : rightN A n ≤ rightN B n := Nat.div_le_div_right h
theorem jam_le (A : Nat) (n : Int) : rightN A n ≤ jamN A n ∧ jamN A n ≤ oddN (rightN A n) := by
  cases h : lostB A n with
  | false => rw [jam_no h]; unfold oddN; omega
  | true => rw [jam_yes h]; unfold oddN; omega
theorem jam_mono {A B : Nat} (h : A ≤ B) (n : Int) : jamN A n ≤ jamN B n := by
  have hr := right_mono h n
  have ja := jam_le A n
  have jb := jam_le B n
  by_cases e : rightN A n = rightN B n
  · cases ha : lostB A n with
    | false => rw [jam_no ha]; omega
    | true =>
      have hb : lostB B n = true := by
        unfold lostB at *
        unfold rightN at e
        rw [decide_eq_true_iff] at *
        have h1 := Nat.div_add_mod A (2 ^ n.toNat)
        have h2 := Nat.div_add_mod B (2 ^ n.toNat)
        rw [e] at h1
        omega
      rw [jam_yes ha, jam_yes hb, e]; exact Nat.le_refl _
  · unfold oddN at *; omega
theorem left_exact {A : Nat} (hA : W128 A) {k : Int} (h0 : 0 ≤ k) (h1 : k ≤ 128) : left256 A k = A * 2 ^ k.toNat := by
  unfold left256
  have h2 : 2 ^ k.toNat ≤ 2 ^ 128 := Nat.pow_le_pow_right (by omega) (by omega)
  have h3 : A * 2 ^ k.toNat < 2 ^ 128 * 2 ^ 128 := by
    have a := hA.lt
    calc A * 2 ^ k.toNat ≤ A * 2 ^ 128 := Nat.mul_le_mul_left _ h2
      _ < 2 ^ 128 * 2 ^ 128 := Nat.mul_lt_mul_of_pos_right a (by omega)
  exact Nat.mod_eq_of_lt (by omega)
theorem back_exact {A : Nat} (hA : W128 A) {k : Int} (h0 : 0 ≤ k) (h1 : k ≤ 128) : rightN (left256 A k) k = A := by
  rw [left_exact hA h0 h1]; unfold rightN; exact Nat.mul_div_cancel _ (Nat.two_pow_pos _)
theorem left128_limb (A : Nat) (k : Int) (i : Nat) (hi : i < 2) : limb i (left128 A k) = limb i (left256 A k) := by
  unfold left128 left256; rw [limb_mod128 _ _ hi, limb_mod256 _ _ (by omega)]
theorem low_limb (A : Nat) (k : Int) (i : Nat) (hi : i < 2) : limb i (rightN (left256 (A * 2 ^ 128) k) 128) = limb i (left256 A k) := by
  unfold left256 rightN
  rw [limb_mod256 _ _ (by omega)]
  have e : A * 2 ^ 128 * 2 ^ k.toNat % 2 ^ 256 / 2 ^ (128 : Int).toNat = A * 2 ^ k.toNat % 2 ^ 128 := by
    rw [show (128 : Int).toNat = 128 from rfl, Nat.mul_right_comm]
    generalize A * 2 ^ k.toNat = m
    omega
  rw [e, limb_mod128 _ _ hi]
theorem wide_up {A : Nat} (hA : W128 A) : IsWide 0 0 (limb 0 A) (limb 1 A) (A * 2 ^ 128) := by
  have := hA.lt
  refine ⟨⟨by omega⟩, ?_, ?_, ?_, ?_⟩ <;> unfold limb <;> omega

/-! how far at most: for the examples -/
def capI (n : Int) : Int := if 300 < n then 300 else n
theorem right_cap {A : Nat} (hA : W256 A) (n : Int) : rightN A (capI n) = rightN A n := by
  unfold capI; split
  · unfold rightN
    have := hA.lt
    rw [Nat.div_eq_of_lt (Nat.lt_of_lt_of_le this (Nat.pow_le_pow_right (by omega) (by omega))), Nat.div_eq_of_lt (Nat.lt_of_lt_of_le this (Nat.pow_le_pow_right (by omega) (by omega)))]
  · rfl
theorem lost_cap {A : Nat} (hA : W256 A) (n : Int) : lostB A (capI n) = lostB A n := by
  unfold capI; split
  · unfold lostB
    have := hA.lt
    rw [Nat.mod_eq_of_lt (Nat.lt_of_lt_of_le this (Nat.pow_le_pow_right (by omega) (by omega))), Nat.mod_eq_of_lt (Nat.lt_of_lt_of_le this (Nat.pow_le_pow_right (by omega) (by omega)))]
  · rfl
theorem jam_cap {A : Nat} (hA : W256 A) (n : Int) : jamN A (capI n) = jamN A n := by
  unfold jamN; rw [right_cap hA, lost_cap hA]
end Go.Proofs.Ythpmbfdbknikcaa
