/- Plain arithmetic of sums and differences of four parts. No program is in sight. -/
import Derived.Test.YthpmbfdbknikcaaCarry
set_option linter.unusedVariables false
set_option linter.unusedSimpArgs false
namespace Go.Proofs.Ythpmbfdbknikcaa

/-- what is carried into place i; what is borrowed from it -/
def carN (i A B : Nat) : Int := (((A % 2 ^ (64 * i) + B % 2 ^ (64 * i)) / 2 ^ (64 * i) : Nat) : Int)
def borN (i A B : Nat) : Int := if A % 2 ^ (64 * i) < B % 2 ^ (64 * i) then 1 else 0
theorem carN_zero (A B : Nat) : carN 0 A B = 0 := by unfold carN; simp [Nat.mod_one]
theorem borN_zero (A B : Nat) : borN 0 A B = 0 := by unfold borN; simp [Nat.mod_one]

theorem split_at (A m : Nat) (hm : 0 < m) : ∃ h l, A = h * m + l ∧ l < m ∧ A / m = h ∧ A % m = l :=
  ⟨A / m, A % m, by rw [Nat.mul_comm]; exact (Nat.div_add_mod A m).symm, Nat.mod_lt _ hm, rfl, rfl⟩
theorem div_of {h l m : Nat} (hl : l < m) : (h * m + l) / m = h := by
  rw [Nat.mul_comm, Nat.mul_add_div (by omega), Nat.div_eq_of_lt hl, Nat.add_zero]
theorem mod_of {h l m : Nat} (hl : l < m) : (h * m + l) % m = l := by
  rw [Nat.mul_comm, Nat.mul_add_mod, Nat.mod_eq_of_lt hl]
theorem mod_big (A m K : Nat) : A % (m * K) = A / m % K * m + A % m := by
  rw [Nat.mod_mul, Nat.mul_comm, Nat.add_comm]

theorem sum_step (A B m : Nat) (hm : 0 < m) : (A + B) / m = A / m + B / m + (A % m + B % m) / m := by
  obtain ⟨h, l, e, hl, e1, e2⟩ := split_at A m hm
  obtain ⟨h', l', e', hl', e1', e2'⟩ := split_at B m hm
  rw [e1, e2, e1', e2']
  rw [show A + B = (l + l') + (h + h') * m by rw [e, e', Nat.add_mul]; omega, Nat.add_mul_div_right _ _ hm]; omega
theorem car_step (A B m K : Nat) (hm : 0 < m) : (A % (m * K) + B % (m * K)) / (m * K) = (A / m % K + B / m % K + (A % m + B % m) / m) / K := by
  rw [← Nat.div_div_eq_div_mul, mod_big, mod_big]
  rw [show A / m % K * m + A % m + (B / m % K * m + B % m) = (A % m + B % m) + (A / m % K + B / m % K) * m by rw [Nat.add_mul]; omega, Nat.add_mul_div_right _ _ hm]
  congr 1; omega
theorem sum_limb (A B i : Nat) : sumI (limb i A) (limb i B) (carN i A B) = limb i (A + B) := by
  have h := sum_step A B (2 ^ (64 * i)) (Nat.two_pow_pos _)
  unfold sumI limb carN
  rw [h]
  generalize A / 2 ^ (64 * i) = x
  generalize B / 2 ^ (64 * i) = y
  generalize (A % 2 ^ (64 * i) + B % 2 ^ (64 * i)) / 2 ^ (64 * i) = z
  omega
theorem car_limb (A B i : Nat) : carI (limb i A) (limb i B) (carN i A B) = carN (i + 1) A B := by
  have h := car_step A B (2 ^ (64 * i)) (2 ^ 64) (Nat.two_pow_pos _)
  rw [← Nat.pow_add, show 64 * i + 64 = 64 * (i + 1) by omega] at h
  unfold carI limb carN
  rw [h]
  generalize A / 2 ^ (64 * i) = x
  generalize B / 2 ^ (64 * i) = y
  generalize (A % 2 ^ (64 * i) + B % 2 ^ (64 * i)) / 2 ^ (64 * i) = z
  omega
theorem bor_step (A B m K : Nat) (hm : 0 < m) : A % (m * K) < B % (m * K) ↔ A / m % K < B / m % K + (if A % m < B % m then 1 else 0) := by
  rw [mod_big A, mod_big B]
  generalize A / m % K = x
  generalize B / m % K = y
  have ha := Nat.mod_lt A hm
  have hb := Nat.mod_lt B hm
  generalize A % m = a at *
  generalize B % m = b at *
  rcases Nat.lt_trichotomy x y with h | h | h
  · have h2 : x * m + m ≤ y * m := by rw [← Nat.succ_mul]; exact Nat.mul_le_mul_right m h
    constructor
    · intro _; omega
    · intro _; omega
  · subst h
    split <;> constructor <;> omega
  · have h2 : y * m + m ≤ x * m := by rw [← Nat.succ_mul]; exact Nat.mul_le_mul_right m h
    constructor
    · intro h3; omega
    · intro h3; split at h3 <;> omega
theorem bor_limb (A B i : Nat) : borI (limb i A) (limb i B) (borN i A B) = borN (i + 1) A B := by
  have h := bor_step A B (2 ^ (64 * i)) (2 ^ 64) (Nat.two_pow_pos _)
  rw [← Nat.pow_add, show 64 * i + 64 = 64 * (i + 1) by omega] at h
  unfold borI limb borN
  by_cases k : A % 2 ^ (64 * (i + 1)) < B % 2 ^ (64 * (i + 1))
  · rw [if_pos k, if_pos]
    have := h.1 k
    split at this <;> split <;> omega
  · rw [if_neg k, if_neg]
    intro k2
    apply k
    apply h.2
    split at k2 <;> split <;> omega
theorem dif_step (A B m N : Nat) (hm : 0 < m) (hB : B ≤ N * m) : (A + N * m - B) / m + B / m + (if A % m < B % m then 1 else 0) = A / m + N := by
  obtain ⟨h, l, e, hl, e1, e2⟩ := split_at A m hm
  obtain ⟨h', l', e', hl', e1', e2'⟩ := split_at B m hm
  rw [e1, e2, e1', e2']
  have hle : h' ≤ N := by
    rcases Nat.lt_or_ge N h' with k | k
    · have := Nat.mul_le_mul_right m k
      rw [Nat.succ_mul] at this
      omega
    · exact k
  obtain ⟨d, rfl⟩ := Nat.exists_eq_add_of_le hle
  split
  · rename_i k
    have hd : 1 ≤ h + d := by
      rcases Nat.eq_zero_or_pos d with k2 | k2
      · subst k2
        rw [e', Nat.add_zero] at hB
        omega
      · omega
    obtain ⟨c, hc⟩ := Nat.exists_eq_add_of_le hd
    have : A + (h' + d) * m - B = c * m + (m + l - l') := by
      rw [e, e', Nat.add_mul]
      have : h * m + d * m = m + c * m := by rw [← Nat.add_mul, hc, Nat.add_mul, Nat.one_mul]
      omega
    rw [this, div_of (by omega)]
    omega
  · rename_i k
    have : A + (h' + d) * m - B = (h + d) * m + (l - l') := by
      rw [e, e', Nat.add_mul, Nat.add_mul]
      omega
    rw [this, div_of (by omega)]
    omega
theorem dif_limb (A B i : Nat) (hi : i < 4) (hB : B < 2 ^ 256) : difI (limb i A) (limb i B) (borN i A B) = limb i (A + 2 ^ 256 - B) := by
  have hp : (2 : Nat) ^ 256 = 2 ^ (64 * (3 - i)) * 2 ^ 64 * 2 ^ (64 * i) := by rw [← Nat.pow_add, ← Nat.pow_add]; congr 1; omega
  have h := dif_step A B (2 ^ (64 * i)) (2 ^ (64 * (3 - i)) * 2 ^ 64) (Nat.two_pow_pos _) (by omega)
  rw [← hp] at h
  unfold difI limb borN
  generalize (A + 2 ^ 256 - B) / 2 ^ (64 * i) = s at *
  generalize A / 2 ^ (64 * i) = x at *
  generalize B / 2 ^ (64 * i) = y at *
  generalize 2 ^ (64 * (3 - i)) = t at *
  split at h <;> (rename_i k; simp only [k, if_true, if_false]; omega)
theorem carN_four {A B : Nat} (hA : W256 A) (hB : W256 B) : (carN 4 A B != 0) = carry256 A B := by
  have := hA.lt; have := hB.lt
  unfold carN carry256
  rw [show 64 * 4 = 256 from rfl, Nat.mod_eq_of_lt hA.lt, Nat.mod_eq_of_lt hB.lt, Bool.eq_iff_iff, bne_iff_ne, decide_eq_true_iff]
  omega
theorem borN_four {A B : Nat} (hA : W256 A) (hB : W256 B) : (borN 4 A B != 0) = ltB A B := by
  unfold borN ltB
  rw [show 64 * 4 = 256 from rfl, Nat.mod_eq_of_lt hA.lt, Nat.mod_eq_of_lt hB.lt, Bool.eq_iff_iff, bne_iff_ne, decide_eq_true_iff]
  split <;> simp_all
end Go.Proofs.Ythpmbfdbknikcaa
