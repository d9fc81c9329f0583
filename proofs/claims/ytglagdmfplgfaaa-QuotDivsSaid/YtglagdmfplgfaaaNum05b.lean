/- Plain arithmetic of quotients: the bits of a quotient, laid one by one. No program is in sight. -/
import Derived.Test.YtglagdmfplgfaaaNum05
import Derived.Test.YtglagdmfplgfaaaNum06b
set_option linter.unusedVariables false
set_option linter.unusedSimpArgs false
namespace Go.Proofs.Ytglagdmfplgfaaa

/-- the bit of a place -/
def bitN (A i : Nat) : Nat := A / 2 ^ i % 2
theorem bitN_le (A i : Nat) : bitN A i ≤ 1 := by unfold bitN; omega
theorem div_bitN (A i : Nat) : A / 2 ^ i = 2 * (A / 2 ^ (i + 1)) + bitN A i := by
  unfold bitN
  rw [Nat.pow_succ, ← Nat.div_div_eq_div_mul]; omega
/-- the rest, and the quotient, of what stands above place i -/
def restN (A D i : Nat) : Nat := A / 2 ^ i % D
def quoN (A D i : Nat) : Nat := A / 2 ^ i / D * 2 ^ i
theorem rest_step (A : Nat) {D i : Nat} (hD : 0 < D) : restN A D i = nextN (restN A D (i + 1)) (bitN A i) D := by
  unfold restN
  rw [div_bitN, (div_bit _ _ D hD (bitN_le A i)).1]
theorem quo_step (A : Nat) {D i : Nat} (hD : 0 < D) : quoN A D i = quoN A D (i + 1) + (if onceB (restN A D (i + 1)) (bitN A i) D = true then 2 ^ i else 0) := by
  unfold quoN restN
  rw [div_bitN, (div_bit _ _ D hD (bitN_le A i)).2, Nat.add_mul, Nat.pow_succ]
  split
  · rw [Nat.one_mul, Nat.mul_comm 2 _, Nat.mul_assoc, Nat.mul_comm 2 _]
  · rw [Nat.zero_mul, Nat.mul_comm 2 _, Nat.mul_assoc, Nat.mul_comm 2 _]
theorem rest_lt (A : Nat) {D : Nat} (hD : 0 < D) (i : Nat) : restN A D i < D := Nat.mod_lt _ hD
theorem rest_end (A D : Nat) : restN A D 0 = A % D := by unfold restN; rw [Nat.pow_zero, Nat.div_one]
theorem quo_end (A D : Nat) : quoN A D 0 = A / D := by unfold quoN; rw [Nat.pow_zero, Nat.div_one, Nat.mul_one]
theorem rest_top {A m : Nat} (h : A < 2 ^ m) (D : Nat) : restN A D m = 0 := by unfold restN; rw [Nat.div_eq_of_lt h, Nat.zero_mod]
theorem quo_top {A m : Nat} (h : A < 2 ^ m) (D : Nat) : quoN A D m = 0 := by unfold quoN; rw [Nat.div_eq_of_lt h, Nat.zero_div, Nat.zero_mul]
theorem quo_le (A : Nat) {D : Nat} (i : Nat) : quoN A D i ≤ A := by
  unfold quoN
  exact Nat.le_trans (Nat.mul_le_mul_right _ (Nat.div_le_self _ _)) (Nat.div_mul_le_self _ _)
theorem quo_or (A D i : Nat) : quoN A D (i + 1) ||| 2 ^ i = quoN A D (i + 1) + 2 ^ i := or_add (by unfold quoN; exact Nat.mul_mod_left _ _)
/-- a power's part -/
theorem limb_pow (j i : Nat) : limb j (2 ^ i) = if i / 64 = j then ((2 ^ (i % 64) : Nat) : Int) else 0 := by
  unfold limb
  split
  · rename_i h
    have e : i = 64 * j + i % 64 := by omega
    rw [show 2 ^ i / 2 ^ (64 * j) = 2 ^ (i % 64) by
      conv => lhs; rw [e]
      rw [Nat.pow_add, Nat.mul_div_cancel_left _ (Nat.two_pow_pos _)]]
    rw [Nat.mod_eq_of_lt (Nat.pow_lt_pow_right (by omega) (by omega))]
  · rename_i h
    rcases Nat.lt_or_ge i (64 * j) with k | k
    · rw [Nat.div_eq_of_lt (Nat.pow_lt_pow_right (by omega) k)]; rfl
    · have e : i = 64 * j + (i - 64 * j) := by omega
      rw [show 2 ^ i / 2 ^ (64 * j) = 2 ^ (i - 64 * j) by
        conv => lhs; rw [e]
        rw [Nat.pow_add, Nat.mul_div_cancel_left _ (Nat.two_pow_pos _)]]
      rw [Nat.mod_eq_zero_of_dvd (Nat.pow_dvd_pow 2 (by omega))]; rfl
/-- a bit laid into a number's parts -/
theorem limb_lay (A D i j : Nat) : limb j (quoN A D (i + 1) + 2 ^ i) = if i / 64 = j then bits .or .u64 (limb j (quoN A D (i + 1))) ((2 ^ (i % 64) : Nat) : Int) else limb j (quoN A D (i + 1)) := by
  have h := limb_or j (quoN A D (i + 1)) (2 ^ i)
  rw [quo_or, limb_pow] at h
  split
  · rename_i e
    rw [if_pos e] at h; exact h.symm
  · rename_i e
    rw [if_neg e, or_u64 (limb_u64 _ _) u64_zero] at h
    have := (limb_u64 j (quoN A D (i + 1))).lo
    rw [← h, show (0 : Int).toNat = 0 from rfl, Nat.or_zero]; omega

/-- a bit of a number, by its part -/
theorem bit_part (A i : Nat) : limb (i / 64) A / 2 ^ (i % 64) % 2 = ((bitN A i : Nat) : Int) := by
  unfold limb bitN
  have h1 : (A / 2 ^ (64 * (i / 64)) % 2 ^ 64) / 2 ^ (i % 64) % 2 = A / 2 ^ i % 2 := by
    have e : (2 : Nat) ^ 64 = 2 ^ (i % 64) * 2 ^ (64 - i % 64) := by rw [← Nat.pow_add]; congr 1; omega
    rw [e, Nat.mod_mul_right_div_self, Nat.div_div_eq_div_mul, ← Nat.pow_add, show 64 * (i / 64) + i % 64 = i by omega]
    exact Nat.mod_mod_of_dvd _ (by
      have : (2 : Nat) ^ (64 - i % 64) = 2 * 2 ^ (63 - i % 64) := by rw [← Nat.pow_succ']; congr 1; omega
      rw [this]; exact Nat.dvd_mul_right _ _)
  rw [← h1]
  simp only [Int.natCast_ediv, Int.natCast_emod, Int.natCast_pow]; rfl

/-- far steps: the rest of a number shifted far -/
def farN (r D : Nat) (k : Nat) : Nat := r * 2 ^ k % D
theorem far_zero {r D : Nat} (h : r < D) : farN r D 0 = r := by unfold farN; rw [Nat.pow_zero, Nat.mul_one, Nat.mod_eq_of_lt h]
theorem far_lt (r : Nat) {D : Nat} (h : 0 < D) (k : Nat) : farN r D k < D := Nat.mod_lt _ h
theorem far_step (r : Nat) {D : Nat} (hD : 0 < D) (k : Nat) : farN r D (k + 1) = nextN (farN r D k) 0 D := by
  unfold farN
  rw [← (div_bit (r * 2 ^ k) 0 D hD (by omega)).1, Nat.pow_succ, Nat.add_zero]; congr 1; rw [Nat.mul_comm 2, Nat.mul_assoc]
/-- whether the last step's quotient is odd -/
def oddF (r D k : Nat) : Bool := decide (r * 2 ^ k / D % 2 = 1)
theorem odd_step (r : Nat) {D : Nat} (hD : 0 < D) (k : Nat) : oddF r D (k + 1) = onceB (farN r D k) 0 D := by
  unfold oddF farN
  have h := (div_bit (r * 2 ^ k) 0 D hD (by omega)).2
  rw [show r * 2 ^ (k + 1) = 2 * (r * 2 ^ k) + 0 by rw [Nat.pow_succ, Nat.add_zero, Nat.mul_comm 2, Nat.mul_assoc], h]
  cases onceB (r * 2 ^ k % D) 0 D
  · simp
  · simp
theorem odd_zero {r D : Nat} (h : r < D) : oddF r D 0 = false := by unfold oddF; rw [Nat.pow_zero, Nat.mul_one, Nat.div_eq_of_lt h]; rfl
theorem far_far (r D a b : Nat) : farN (farN r D a) D b = farN r D (a + b) := by
  unfold farN
  rw [Nat.mod_mul_mod, Nat.pow_add, Nat.mul_assoc]
end Go.Proofs.Ytglagdmfplgfaaa
