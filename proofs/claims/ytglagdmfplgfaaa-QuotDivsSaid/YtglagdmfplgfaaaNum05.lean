/- Plain arithmetic of quotients, bit by bit. No program is in sight. -/
import Derived.Test.YtglagdmfplgfaaaNum1
set_option linter.unusedVariables false
set_option linter.unusedSimpArgs false
namespace Go.Proofs.Ytglagdmfplgfaaa

/-- twice the rest, and a bit; whether the divisor went once -/
def onceB (r b d : Nat) : Bool := decide (d ≤ 2 * r + b)
def nextN (r b d : Nat) : Nat := if onceB r b d = true then 2 * r + b - d else 2 * r + b
theorem next_div {r b d : Nat} (hd : r < d) (hb : b ≤ 1) : nextN r b d = (2 * r + b) % d ∧ (if onceB r b d = true then 1 else 0) = (2 * r + b) / d := by
  unfold nextN onceB
  by_cases h : d ≤ 2 * r + b
  · simp only [decide_eq_true h, if_true]
    have e : 2 * r + b = (2 * r + b - d) + 1 * d := by omega
    constructor
    · rw [e, Nat.add_mul_mod_self_right, Nat.mod_eq_of_lt (by omega)]; omega
    · rw [e, Nat.add_mul_div_right _ _ (by omega), Nat.div_eq_of_lt (by omega)]
  · simp only [decide_eq_false h, Bool.false_eq_true, if_false]
    exact ⟨(Nat.mod_eq_of_lt (by omega)).symm, (Nat.div_eq_of_lt (by omega)).symm⟩
theorem next_lt {r b d : Nat} (hd : r < d) (hb : b ≤ 1) : nextN r b d < d := by rw [(next_div hd hb).1]; exact Nat.mod_lt _ (by omega)
/-- rest and quotient of one more bit -/
theorem div_bit (m b d : Nat) (hd : 0 < d) (hb : b ≤ 1) : (2 * m + b) % d = nextN (m % d) b d ∧ (2 * m + b) / d = 2 * (m / d) + (if onceB (m % d) b d = true then 1 else 0) := by
  obtain ⟨h1, h2⟩ := next_div (Nat.mod_lt m hd) hb
  have e : 2 * m + b = (2 * (m % d) + b) + 2 * (m / d) * d := by
    have := Nat.div_add_mod m d
    rw [Nat.mul_comm] at this
    rw [Nat.mul_assoc]; omega
  rw [h1, h2, e, Nat.add_mul_mod_self_right, Nat.add_mul_div_right _ _ hd]
  exact ⟨rfl, by omega⟩
end Go.Proofs.Ytglagdmfplgfaaa
