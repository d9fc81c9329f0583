/- The walks of the statements of layer 2 that do not ask the document's answer. -/
import Derived.Test.YthpmbfdbknikcaaWideLit
set_option linter.unusedVariables false
set_option linter.unusedSimpArgs false
namespace Go.Proofs.Ythpmbfdbknikcaa
open Go.RowKit

@[go_sem] theorem eqW_self (a b c d : Int) : eqW a b c d a b c d = true := eqW_true.2 ⟨rfl, rfl, rfl, rfl⟩
theorem add_sub256 {A B : Nat} (hA : W256 A) (hB : W256 B) : sub256 (add256 A B) B = A := by
  have := hA.lt; have := hB.lt; unfold sub256 add256; omega
theorem lt_add256 {A B : Nat} (hA : W256 A) (hB : W256 B) : ltB (add256 A B) B = carry256 A B := by
  have := hA.lt; have := hB.lt; unfold ltB add256 carry256; rw [decide_eq_decide]; omega
theorem add_comm256 (A B : Nat) : add256 B A = add256 A B := by unfold add256; rw [Nat.add_comm]
theorem add_assoc256 (A B C : Nat) : add256 (add256 A B) C = add256 A (add256 B C) := by unfold add256; omega
theorem cmp_carry256 {A B : Nat} (hA : W256 A) (hB : W256 B) : decide (cmpN (add256 A B) A < 0) = carry256 A B := by
  have := hA.lt; have := hB.lt
  unfold carry256; rw [decide_eq_decide, cmp_neg]; unfold add256; omega
theorem join_halves (A : Nat) : joinN (hiN A) (loN A) = A := by unfold joinN hiN loN; omega
theorem hi_of {A : Nat} (h : W128 A) : zeroB (hiN A) = true := by have := h.lt; unfold zeroB hiN; exact decide_eq_true (by omega)
theorem lo_of {A : Nat} (h : W128 A) : loN A = A := by unfold loN; exact Nat.mod_eq_of_lt h.lt
theorem mul_turn (A B : Nat) : mulN B A = mulN A B := by rw [mulN_def, mulN_def, Nat.mul_comm]
theorem mul_one' (A : Nat) : mulN A (val2 1 0) = A := by rw [mulN_def]; unfold val2; simp
theorem mul_up (A : Nat) : mulN A (val2 0 1) = A * 2 ^ 64 := by rw [mulN_def]; unfold val2; simp
theorem mul_sums {A B C : Nat} (hA : W128 A) (hB : W128 B) (hC : W128 C) (h : carry128 B C = false) : add256 (mulN A B) (mulN A C) = mulN A (add128 B C) := by
  have := hB.lt; have := hC.lt
  unfold carry128 at h
  have h := of_decide_eq_false h
  have e : add128 B C = B + C := by unfold add128; omega
  rw [e, mulN_def, mulN_def, mulN_def]
  unfold add256
  rw [← Nat.mul_add]
  exact Nat.mod_eq_of_lt (mulN_lt hA ⟨by omega⟩)
theorem mul_sums_over {A B C : Nat} (hA : W128 A) (hB : W128 B) (hC : W128 C) (h : carry128 B C = true) : add256 (mulN A (add128 B C)) (joinN A (val2 0 0)) = add256 (mulN A B) (mulN A C) := by
  have := hB.lt; have := hC.lt
  unfold carry128 at h
  have h := of_decide_eq_true h
  have e : add128 B C + 2 ^ 128 = B + C := by unfold add128; omega
  rw [mulN_def, mulN_def, mulN_def]
  unfold add256
  rw [← Nat.mul_add, ← e, Nat.mul_add, joinN_def]
  unfold val2; simp

set_option maxHeartbeats 1000000 in
theorem counts02_any (w : World) :
    Calls Try.prog 26 #[] w fun e w' => e = .returned (.bool true) ∧ Below w.heap.size w w' := by
  have hk := Kept.refl w
  have hE := Known.nil w
  go_enter Try.func26, Try.ntmps26
  go_wp2_with (first
    | (go_at_call 42; refine (SubW_lit _ _ _ _ _ _ _ _ 18446744073709551615 18446744073709551615 18446744073709551615 18446744073709551615 true (by decide +kernel) _).mono ?_; rintro e w' ⟨rfl, hb⟩; replace hE : Known _ w' := Known.step hE (by refine Kept.below ?_; repeat (first | with_reducible exact Kept.refl _ | with_reducible refine Kept.alloc ?_ _ | with_reducible refine Kept.drew ?_ | with_reducible refine Kept.setCell ?_ (by simp) _)) hb; have hR := hE; (simp only [Known, and_true] at hR); replace hk : Kept w.heap.size w w' := Kept.step (by repeat (first | with_reducible exact hk | with_reducible refine Kept.alloc ?_ _ | with_reducible refine Kept.drew ?_ | with_reducible refine Kept.setCell ?_ (by simp; omega) _)) hb; have hz := hb.size; (try simp only [World.size_alloc, World.size_setCell] at hz); clear hb)
    | (go_at_call 17; refine (MulW_lit _ _ _ _ 0 0 1 0 (by decide +kernel) _).mono ?_; rintro e w' ⟨rfl, hb⟩; replace hE : Known _ w' := Known.step hE (by refine Kept.below ?_; repeat (first | with_reducible exact Kept.refl _ | with_reducible refine Kept.alloc ?_ _ | with_reducible refine Kept.drew ?_ | with_reducible refine Kept.setCell ?_ (by simp) _)) hb; have hR := hE; (simp only [Known, and_true] at hR); replace hk : Kept w.heap.size w w' := Kept.step (by repeat (first | with_reducible exact hk | with_reducible refine Kept.alloc ?_ _ | with_reducible refine Kept.drew ?_ | with_reducible refine Kept.setCell ?_ (by simp; omega) _)) hb; have hz := hb.size; (try simp only [World.size_alloc, World.size_setCell] at hz); clear hb)
    | (go_at_call 25; refine (Join_lit _ _ _ _ 0 0 1 0 (by decide +kernel) _).mono ?_; rintro e w' ⟨rfl, hb⟩; replace hE : Known _ w' := Known.step hE (by refine Kept.below ?_; repeat (first | with_reducible exact Kept.refl _ | with_reducible refine Kept.alloc ?_ _ | with_reducible refine Kept.drew ?_ | with_reducible refine Kept.setCell ?_ (by simp) _)) hb; have hR := hE; (simp only [Known, and_true] at hR); replace hk : Kept w.heap.size w w' := Kept.step (by repeat (first | with_reducible exact hk | with_reducible refine Kept.alloc ?_ _ | with_reducible refine Kept.drew ?_ | with_reducible refine Kept.setCell ?_ (by simp; omega) _)) hb; have hz := hb.size; (try simp only [World.size_alloc, World.size_setCell] at hz); clear hb))
  go_ret
  exact ⟨rfl, (by refine Kept.below ?_; repeat (first | with_reducible exact Kept.refl _ | with_reducible exact hk | with_reducible refine Kept.alloc ?_ _ | with_reducible refine Kept.drew ?_ | with_reducible refine Kept.setCell ?_ (by simp; try omega) _))⟩

end Go.Proofs.Ythpmbfdbknikcaa
