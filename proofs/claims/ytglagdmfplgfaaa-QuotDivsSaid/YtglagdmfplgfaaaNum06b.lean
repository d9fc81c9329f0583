/- Plain arithmetic of square roots: bits laid one by one, and the root by steps from any power on. No program is in sight. -/
import Derived.Test.YtglagdmfplgfaaaNum06
set_option linter.unusedVariables false
set_option linter.unusedSimpArgs false
namespace Go.Proofs.Ytglagdmfplgfaaa

theorem limb_or (j A B : Nat) : bits .or .u64 (limb j A) (limb j B) = limb j (A ||| B) := by
  rw [or_u64 (limb_u64 _ _) (limb_u64 _ _)]
  unfold limb
  rw [Int.toNat_natCast, Int.toNat_natCast, Nat.or_div_two_pow, Nat.or_mod_two_pow]
theorem or_add {Q i : Nat} (h : Q % 2 ^ (i + 1) = 0) : Q ||| 2 ^ i = Q + 2 ^ i := by
  obtain ⟨q, hq⟩ := Nat.dvd_of_mod_eq_zero h
  subst hq
  exact (Nat.two_pow_add_eq_or_of_lt (Nat.pow_lt_pow_right (by omega) (Nat.lt_succ_self i)) q).symm
theorem rootS_or {n k : Nat} (hn : W256 n) (hk : k < 128) : rootS n k ||| 2 ^ (127 - k) = rootS n k + 2 ^ (127 - k) :=
  or_add (by rw [show 127 - k + 1 = 128 - k by omega]; exact rootS_low hn hk)
theorem rootS_succ (n k : Nat) : rootS n (k + 1) = if (rootS n k + 2 ^ (127 - k)) * (rootS n k + 2 ^ (127 - k)) ≤ n then rootS n k + 2 ^ (127 - k) else rootS n k := rfl
theorem rootS_yes {n k : Nat} (h : (rootS n k + 2 ^ (127 - k)) * (rootS n k + 2 ^ (127 - k)) ≤ n) : rootS n (k + 1) = rootS n k + 2 ^ (127 - k) := by rw [rootS_succ, if_pos h]
theorem rootS_no {n k : Nat} (h : n < (rootS n k + 2 ^ (127 - k)) * (rootS n k + 2 ^ (127 - k))) : rootS n (k + 1) = rootS n k := by rw [rootS_succ, if_neg (by omega)]
theorem rootS_all (n : Nat) : rootS n 128 = rootN n := by unfold rootN; rfl

/-! from any power on -/
theorem sq_step {n r j : Nat} (h1 : r * r ≤ n) (h2 : n < (r + 2 ^ (j + 1)) * (r + 2 ^ (j + 1))) :
    ((r + 2 ^ j) * (r + 2 ^ j) ≤ n → n < (r + 2 ^ j + 2 ^ j) * (r + 2 ^ j + 2 ^ j)) := by
  intro _
  rw [Nat.add_assoc, show 2 ^ j + 2 ^ j = 2 ^ (j + 1) by rw [Nat.pow_succ]; omega]; exact h2
theorem sq_start (n m : Nat) (h : n < 2 ^ m) : n < (0 + 2 ^ (m / 2 + 1)) * (0 + 2 ^ (m / 2 + 1)) := by
  rw [Nat.zero_add, ← Nat.pow_add]
  exact Nat.lt_of_lt_of_le h (Nat.pow_le_pow_right (by omega) (by omega))
theorem root_small {n r : Nat} (hn : W256 n) (h : r * r ≤ n) : r < 2 ^ 128 := by
  have := hn.lt
  exact sq_lt (b := 2 ^ 128) (by omega)
end Go.Proofs.Ytglagdmfplgfaaa
