/- Plain laws of quotients. No program is in sight. -/
import Derived.Test.YtjfejldiiijjbaaQuotP
import Derived.Test.YtjfejldiiijjbaaWideMul
import Derived.Test.YtjfejldiiijjbaaNum3
set_option linter.unusedVariables false
set_option linter.unusedSimpArgs false
namespace Go.Proofs.Ytjfejldiiijjbaa

/-- back: quotient times divisor, in halves, and the rest -/
theorem qb_parts {A D : Nat} (hA : W256 A) (hD : W128 D) :
    add256 (mulN (loN (divN A D)) D) (joinN (loN (mulN (hiN (divN A D)) D)) (val2 0 0)) = divN A D * D ∧
    carry256 (mulN (loN (divN A D)) D) (joinN (loN (mulN (hiN (divN A D)) D)) (val2 0 0)) = false ∧ zeroB (hiN (mulN (hiN (divN A D)) D)) = true := by
  have h1 : divN A D * D ≤ A := by rw [divN_def]; exact Nat.div_mul_le_self _ _
  have hA' := hA.lt
  generalize divN A D = Q at *
  have e : Q * D = hiN Q * D * 2 ^ 128 + loN Q * D := by
    unfold hiN loN
    conv => lhs; rw [← Nat.div_add_mod Q (2 ^ 128)]
    rw [Nat.add_mul, Nat.mul_comm (2 ^ 128), Nat.mul_right_comm]
  have hz : val2 0 0 = 0 := rfl
  rw [hz, mulN_def, mulN_def, e]
  rw [e] at h1
  generalize hiN Q * D = H at *
  generalize loN Q * D = L at *
  unfold add256 carry256 joinN zeroB hiN loN
  refine ⟨by omega, decide_eq_false (by omega), decide_eq_true (by omega)⟩
theorem qb_whole {A D : Nat} (hA : W256 A) (h : 0 < D) : add256 (divN A D * D) (modN A D) = A ∧ carry256 (divN A D * D) (modN A D) = false ∧ cmpN (modN A D) D = -1 := by
  have h1 : divN A D * D + modN A D = A := by rw [divN_def, modN_def, Nat.mul_comm]; exact Nat.div_add_mod A D
  have hA' := hA.lt
  unfold add256 carry256
  exact ⟨by omega, decide_eq_false (by omega), cmp_lt (by rw [modN_def]; exact Nat.mod_lt _ h)⟩
theorem qb_w {A D : Nat} (hA : W256 A) : W256 (divN A D * D) := ⟨by rw [divN_def]; exact Nat.lt_of_le_of_lt (Nat.div_mul_le_self _ _) hA.lt⟩
theorem qb_prod {B D : Nat} (h : 0 < D) : divN (mulN B D) D = B ∧ modN (mulN B D) D = 0 := by
  rw [divN_def, modN_def, mulN_def]
  exact ⟨Nat.mul_div_cancel _ h, Nat.mul_mod_left _ _⟩
/-- by a power of two -/
theorem qp_power {A : Nat} {k : Int} (hA : W256 A) (h0 : 0 ≤ k) (h1 : k ≤ 127) :
    divN A (2 ^ k.toNat) = rightN A k ∧ sub256 A (left256 (rightN A k) k) = modN A (2 ^ k.toNat) ∧ ltB A (left256 (rightN A k) k) = false ∧ zeroB (modN A (2 ^ k.toNat)) = !lostB A k := by
  have hA' := hA.lt
  have hp := Nat.two_pow_pos k.toNat
  have e := Nat.div_add_mod A (2 ^ k.toNat)
  have hl : left256 (rightN A k) k = A / 2 ^ k.toNat * 2 ^ k.toNat := by
    unfold left256 rightN
    exact Nat.mod_eq_of_lt (Nat.lt_of_le_of_lt (Nat.div_mul_le_self _ _) hA')
  rw [divN_def, modN_def, hl]
  rw [Nat.mul_comm] at e
  have hm := Nat.mod_lt A hp
  refine ⟨rfl, ?_, ?_, ?_⟩
  · unfold sub256
    generalize A / 2 ^ k.toNat * 2 ^ k.toNat = X at *
    generalize A % 2 ^ k.toNat = Y at *
    omega
  · unfold ltB; exact decide_eq_false (by omega)
  · unfold zeroB lostB
    by_cases z : A % 2 ^ k.toNat = 0 <;> simp [z]
/-- order -/
theorem qo_num {A B D : Nat} (h : A ≤ B) : cmpN (divN A D) (divN B D) ≤ 0 := by rw [cmp_le, divN_def, divN_def]; exact Nat.div_le_div_right h
theorem qo_den {A D E : Nat} (h : D ≤ E) (hD : 0 < D) : cmpN (divN A E) (divN A D) ≤ 0 := by rw [cmp_le, divN_def, divN_def]; exact Nat.div_le_div_left h hD
end Go.Proofs.Ytjfejldiiijjbaa
