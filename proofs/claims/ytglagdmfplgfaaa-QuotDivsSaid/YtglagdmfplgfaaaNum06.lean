/- Plain arithmetic of square roots, bit by bit. No program is in sight. -/
import Derived.Test.YtglagdmfplgfaaaNum1
set_option linter.unusedVariables false
set_option linter.unusedSimpArgs false
namespace Go.Proofs.Ytglagdmfplgfaaa

/-- the root behind k bits, from the highest on -/
def rootS (n : Nat) : Nat → Nat
  | 0 => 0
  | k + 1 => if (rootS n k + 2 ^ (127 - k)) * (rootS n k + 2 ^ (127 - k)) ≤ n then rootS n k + 2 ^ (127 - k) else rootS n k
@[irreducible] def rootN (n : Nat) : Nat := rootS n 128
def exactB (n : Nat) : Bool := decide (rootN n * rootN n = n)

theorem rootS_inv {n : Nat} (hn : W256 n) : ∀ k, k ≤ 128 → rootS n k % 2 ^ (128 - k) = 0 ∧ rootS n k * rootS n k ≤ n ∧ n < (rootS n k + 2 ^ (128 - k)) * (rootS n k + 2 ^ (128 - k))
  | 0, _ => by
    have := hn.lt
    refine ⟨by simp [rootS], by simp [rootS], ?_⟩
    simp only [rootS, Nat.zero_add, Nat.sub_zero]
    rw [← Nat.pow_add]; exact this
  | k + 1, hk => by
    obtain ⟨h1, h2, h3⟩ := rootS_inv hn k (by omega)
    have e : 2 ^ (128 - k) = 2 * 2 ^ (127 - k) := by rw [← Nat.pow_succ']; congr 1; omega
    have hp := Nat.two_pow_pos (127 - k)
    rw [show 128 - (k + 1) = 127 - k by omega]
    rw [e] at h1 h3
    have hm : rootS n k % 2 ^ (127 - k) = 0 := Nat.mod_eq_zero_of_dvd (Nat.dvd_trans (Nat.dvd_mul_left _ 2) (Nat.dvd_of_mod_eq_zero h1))
    simp only [rootS]
    split
    · rename_i h
      refine ⟨by rw [Nat.add_mod_right]; exact hm, h, ?_⟩
      rw [show rootS n k + 2 ^ (127 - k) + 2 ^ (127 - k) = rootS n k + 2 * 2 ^ (127 - k) by omega]; exact h3
    · rename_i h
      exact ⟨hm, h2, by omega⟩
theorem rootS_low {n : Nat} (hn : W256 n) {k : Nat} (hk : k < 128) : rootS n k % 2 ^ (128 - k) = 0 := (rootS_inv hn k (by omega)).1
theorem rootN_spec {n : Nat} (hn : W256 n) : rootN n * rootN n ≤ n ∧ n < (rootN n + 1) * (rootN n + 1) := by
  unfold rootN
  obtain ⟨_, h2, h3⟩ := rootS_inv hn 128 (Nat.le_refl _)
  exact ⟨h2, by simpa using h3⟩
theorem sq_lt {a b : Nat} (h : a * a < b * b) : a < b := by
  rcases Nat.lt_or_ge a b with k | k
  · exact k
  · have := Nat.mul_le_mul k k; omega
theorem rootS_w {n : Nat} (hn : W256 n) {k : Nat} (hk : k ≤ 128) : W128 (rootS n k) := ⟨by
  obtain ⟨_, h2, _⟩ := rootS_inv hn k hk
  have := hn.lt
  exact sq_lt (b := 2 ^ 128) (by omega)⟩
theorem rootN_w {n : Nat} (hn : W256 n) : W128 (rootN n) := by unfold rootN; exact rootS_w hn (Nat.le_refl _)
theorem rootS_up_w {n : Nat} (hn : W256 n) {k : Nat} (hk : k < 128) : W128 (rootS n k + 2 ^ (127 - k)) := ⟨by
  have h1 := (rootS_w hn (Nat.le_of_lt hk)).lt
  have h0 := rootS_low hn hk
  have e : 2 ^ (128 - k) = 2 * 2 ^ (127 - k) := by rw [← Nat.pow_succ']; congr 1; omega
  have hp := Nat.two_pow_pos (127 - k)
  obtain ⟨q, hq⟩ := Nat.dvd_of_mod_eq_zero h0
  have e2 : (2 : Nat) ^ 128 = 2 ^ (128 - k) * 2 ^ k := by rw [← Nat.pow_add]; congr 1; omega
  have hq2 : q + 1 ≤ 2 ^ k := by
    rw [hq, e2] at h1
    exact Nat.lt_of_mul_lt_mul_left h1
  have := Nat.mul_le_mul_left (2 ^ (128 - k)) hq2
  rw [← e2, Nat.mul_add, ← hq] at this
  omega⟩
/-- a root that fits is the root -/
theorem rootN_eq {n r : Nat} (hn : W256 n) (h1 : r * r ≤ n) (h2 : n < (r + 1) * (r + 1)) : rootN n = r := by
  obtain ⟨a, b⟩ := rootN_spec hn
  have := sq_lt (Nat.lt_of_le_of_lt a h2)
  have := sq_lt (Nat.lt_of_le_of_lt h1 b)
  omega
theorem rootN_mono {n m : Nat} (hm : W256 m) (h : n ≤ m) : rootN n ≤ rootN m := by
  have hn : W256 n := ⟨by have := hm.lt; omega⟩
  obtain ⟨a, _⟩ := rootN_spec hn
  obtain ⟨_, d⟩ := rootN_spec hm
  have := sq_lt (Nat.lt_of_le_of_lt (Nat.le_trans a h) d)
  omega
theorem sq_succ (a : Nat) : (a + 1) * (a + 1) = a * a + 2 * a + 1 := by rw [Nat.add_mul, Nat.mul_add]; omega
theorem sq_w {a : Nat} (h : W128 a) : W256 (a * a) := ⟨by
  have := h.lt
  have h1 : a ≤ 2 ^ 128 - 1 := by omega
  have := Nat.mul_le_mul h1 h1
  omega⟩
theorem root_sq {a : Nat} (h : W128 a) : rootN (a * a) = a := rootN_eq (sq_w h) (Nat.le_refl _) (by rw [sq_succ]; omega)
theorem root_more {a : Nat} (h : W128 a) (h2 : 2 ≤ a) : W256 (a * a + 1) ∧ rootN (a * a + 1) = a ∧ exactB (a * a + 1) = false := by
  have hw : W256 (a * a + 1) := ⟨by
    have := h.lt
    have h1 : a ≤ 2 ^ 128 - 1 := by omega
    have := Nat.mul_le_mul h1 h1
    omega⟩
  have e := rootN_eq (r := a) hw (by omega) (by rw [sq_succ]; omega)
  exact ⟨hw, e, by unfold exactB; rw [e]; exact decide_eq_false (by omega)⟩
theorem root_less {a : Nat} (h : W128 a) (h2 : 2 ≤ a) : W256 (a * a - 1) ∧ rootN (a * a - 1) = a - 1 ∧ exactB (a * a - 1) = false := by
  have hw : W256 (a * a - 1) := ⟨by have := (sq_w h).lt; omega⟩
  obtain ⟨b, rfl⟩ : ∃ b, a = b + 1 := ⟨a - 1, by omega⟩
  have e := rootN_eq (r := b) hw (by rw [sq_succ]; omega) (by rw [sq_succ]; omega)
  rw [Nat.add_sub_cancel]
  exact ⟨hw, e, by unfold exactB; rw [e, sq_succ]; exact decide_eq_false (by omega)⟩
theorem root_four {n : Nat} (hn : W256 (4 * n)) :
    2 * rootN n ≤ rootN (4 * n) ∧ rootN (4 * n) ≤ 2 * rootN n + 1 ∧ (exactB n = true → rootN (4 * n) = 2 * rootN n ∧ exactB (4 * n) = true) ∧ (exactB (4 * n) = true → exactB n = true) := by
  have hn' : W256 n := ⟨by have := hn.lt; omega⟩
  obtain ⟨a1, a2⟩ := rootN_spec hn'
  obtain ⟨b1, b2⟩ := rootN_spec hn
  have e4 : ∀ x : Nat, 2 * x * (2 * x) = 4 * (x * x) := fun x => by rw [Nat.mul_mul_mul_comm]
  have h1 : 2 * rootN n ≤ rootN (4 * n) := by
    have : 2 * rootN n * (2 * rootN n) < (rootN (4 * n) + 1) * (rootN (4 * n) + 1) := by rw [e4]; omega
    have := sq_lt this; omega
  have h2 : rootN (4 * n) ≤ 2 * rootN n + 1 := by
    have : rootN (4 * n) * rootN (4 * n) < 2 * (rootN n + 1) * (2 * (rootN n + 1)) := by rw [e4]; omega
    have := sq_lt this; omega
  refine ⟨h1, h2, fun h => ?_, fun h => ?_⟩
  · have hx : rootN n * rootN n = n := of_decide_eq_true h
    have e : rootN (4 * n) = 2 * rootN n := rootN_eq hn (by rw [e4, hx]; exact Nat.le_refl _) (by rw [sq_succ, e4, hx]; omega)
    exact ⟨e, by unfold exactB; rw [e, e4, hx]; exact decide_eq_true rfl⟩
  · have hx : rootN (4 * n) * rootN (4 * n) = 4 * n := of_decide_eq_true h
    rcases (by omega : rootN (4 * n) = 2 * rootN n ∨ rootN (4 * n) = 2 * rootN n + 1) with e | e
    · rw [e, e4] at hx
      unfold exactB; exact decide_eq_true (by omega)
    · rw [e, sq_succ, e4] at hx; omega
end Go.Proofs.Ytglagdmfplgfaaa
