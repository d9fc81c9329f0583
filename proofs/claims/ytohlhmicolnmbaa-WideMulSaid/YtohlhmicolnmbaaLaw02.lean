/- The walks of the statements of layer 2 that do not ask the document's answer. -/
import Derived.Test.YtohlhmicolnmbaaWideLit
set_option linter.unusedVariables false
set_option linter.unusedSimpArgs false
namespace Go.Proofs.Ytohlhmicolnmbaa
open Go.RowKit

@[go_sem] theorem eqW_self (a b c d : Int) : eqW a b c d a b c d = true := eqW_true.2 ⟨rfl, rfl, rfl, rfl⟩
theorem add_sub256 {A B : Nat} (hA : W256 A) (hB : W256 B) : sub256 (add256 A B) B = A := by
  have := hA.lt; have := hB.lt; unfold sub256 add256; omega
theorem lt_add256 {A B : Nat} (hA : W256 A) (hB : W256 B) : ltB (add256 A B) B = carry256 A B := by
  have := hA.lt; have := hB.lt; unfold ltB add256 carry256; rw [decide_eq_decide]; omega
theorem add_comm256 (A B : Nat) : add256 B A = add256 A B := by unfold add256; rw [Nat.add_comm]
theorem add_assoc256 (A B C : Nat) : add256 (add256 A B) C = add256 A (add256 B C) := by unfold add256; omega
theorem cmp_carry256 {A B : Nat} (hA : W256 A) (hB : W256 B) : decide (cmpN (add256 A B) A < 0) = carry256 A B := by
  have := hA.lt; have := hB.lt
  unfold carry256; rw [decide_eq_decide, cmp_neg]; unfold add256; omega
theorem join_halves (A : Nat) : joinN (hiN A) (loN A) = A := by unfold joinN hiN loN; omega
theorem hi_of {A : Nat} (h : W128 A) : zeroB (hiN A) = true := by have := h.lt; unfold zeroB hiN; exact decide_eq_true (by omega)
theorem lo_of {A : Nat} (h : W128 A) : loN A = A := by unfold loN; exact Nat.mod_eq_of_lt h.lt
theorem mul_turn (A B : Nat) : mulN B A = mulN A B := by rw [mulN_def, mulN_def, Nat.mul_comm]
theorem mul_one' (A : Nat) : mulN A (val2 1 0) = A := by rw [mulN_def]; unfold val2; simp
theorem mul_up (A : Nat) : mulN A (val2 0 1) = A * 2 ^ 64 := by rw [mulN_def]; unfold val2; simp
theorem mul_sums {A B C : Nat} (hA : W128 A) (hB : W128 B) (hC : W128 C) (h : carry128 B C = false) : add256 (mulN A B) (mulN A C) = mulN A (add128 B C) := by
  have := hB.lt; have := hC.lt
  unfold carry128 at h
  have h := of_decide_eq_false h
  have e : add128 B C = B + C := by unfold add128; omega
  rw [e, mulN_def, mulN_def, mulN_def]
  unfold add256
  rw [← Nat.mul_add]
  exact Nat.mod_eq_of_lt (mulN_lt hA ⟨by omega⟩)
theorem mul_sums_over {A B C : Nat} (hA : W128 A) (hB : W128 B) (hC : W128 C) (h : carry128 B C = true) : add256 (mulN A (add128 B C)) (joinN A (val2 0 0)) = add256 (mulN A B) (mulN A C) := by
  have := hB.lt; have := hC.lt
  unfold carry128 at h
  have h := of_decide_eq_true h
  have e : add128 B C + 2 ^ 128 = B + C := by unfold add128; omega
  rw [mulN_def, mulN_def, mulN_def]
  unfold add256
  rw [← Nat.mul_add, ← e, Nat.mul_add, joinN_def]
  unfold val2; simp

set_option maxHeartbeats 1000000 in
theorem counts02_any (w : World) :
    Calls Try.prog 30 #[] w fun e w' => e = .returned (.bool true) ∧ Below w.heap.size w w' := by
  have hk := Kept.refl w
  have hE := Known.nil w
  go_enter Try.func30, Try.ntmps30
  go_wp2_with (first
    | (go_at_call 45; refine (SubW_lit _ _ _ _ _ _ _ _ 18446744073709551615 18446744073709551615 18446744073709551615 18446744073709551615 true (by decide +kernel) _).mono ?_; rintro e w' ⟨rfl, hb⟩; replace hE : Known _ w' := Known.step hE (by refine Kept.below ?_; repeat (first | with_reducible exact Kept.refl _ | with_reducible refine Kept.alloc ?_ _ | with_reducible refine Kept.drew ?_ | with_reducible refine Kept.setCell ?_ (by simp) _)) hb; have hR := hE; (simp only [Known, and_true] at hR); replace hk : Kept w.heap.size w w' := Kept.step (by repeat (first | with_reducible exact hk | with_reducible refine Kept.alloc ?_ _ | with_reducible refine Kept.drew ?_ | with_reducible refine Kept.setCell ?_ (by simp; omega) _)) hb; have hz := hb.size; (try simp only [World.size_alloc, World.size_setCell] at hz); clear hb)
    | (go_at_call 21; refine (MulW_lit _ _ _ _ 0 0 1 0 (by decide +kernel) _).mono ?_; rintro e w' ⟨rfl, hb⟩; replace hE : Known _ w' := Known.step hE (by refine Kept.below ?_; repeat (first | with_reducible exact Kept.refl _ | with_reducible refine Kept.alloc ?_ _ | with_reducible refine Kept.drew ?_ | with_reducible refine Kept.setCell ?_ (by simp) _)) hb; have hR := hE; (simp only [Known, and_true] at hR); replace hk : Kept w.heap.size w w' := Kept.step (by repeat (first | with_reducible exact hk | with_reducible refine Kept.alloc ?_ _ | with_reducible refine Kept.drew ?_ | with_reducible refine Kept.setCell ?_ (by simp; omega) _)) hb; have hz := hb.size; (try simp only [World.size_alloc, World.size_setCell] at hz); clear hb)
    | (go_at_call 29; refine (Join_lit _ _ _ _ 0 0 1 0 (by decide +kernel) _).mono ?_; rintro e w' ⟨rfl, hb⟩; replace hE : Known _ w' := Known.step hE (by refine Kept.below ?_; repeat (first | with_reducible exact Kept.refl _ | with_reducible refine Kept.alloc ?_ _ | with_reducible refine Kept.drew ?_ | with_reducible refine Kept.setCell ?_ (by simp) _)) hb; have hR := hE; (simp only [Known, and_true] at hR); replace hk : Kept w.heap.size w w' := Kept.step (by repeat (first | with_reducible exact hk | with_reducible refine Kept.alloc ?_ _ | with_reducible refine Kept.drew ?_ | with_reducible refine Kept.setCell ?_ (by simp; omega) _)) hb; have hz := hb.size; (try simp only [World.size_alloc, World.size_setCell] at hz); clear hb))
  go_ret
  exact ⟨rfl, (by refine Kept.below ?_; repeat (first | with_reducible exact Kept.refl _ | with_reducible exact hk | with_reducible refine Kept.alloc ?_ _ | with_reducible refine Kept.drew ?_ | with_reducible refine Kept.setCell ?_ (by simp; try omega) _))⟩

set_option maxHeartbeats 1000000 in
theorem WideBack_walk {A B C : Nat} (hA : W256 A) (hB : W256 B) (hC : W256 C) (w : World) :
    Calls Try.prog 13 #[wideV A, wideV B, wideV C] w fun e w' => e = .returned (.bool true) ∧ Below w.heap.size w w' := by
  have hk := Kept.refl w
  have hE := Known.nil w
  have e1 := add_sub256 hA hB
  have e2 := lt_add256 hA hB
  have e3 := add_comm256 A B
  have e5 := add_assoc256 A B C
  have e6 := cmp_carry256 hA hB
  go_enter Try.func13, Try.ntmps13
  go_wp2_with (first
    | (go_at_call 33; refine (AddW_at (by first | (with_reducible refine IsWide.of ?_; first | assumption | exact add256_w _ _ | exact sub256_w _ _ | exact mulN_w (by assumption) (by assumption) | exact mulN_w (by assumption) (add128_w _ _) | exact w128_256 (by assumption) | exact join_w (by assumption) ⟨by decide⟩) | (with_reducible refine IsWide.val ?_ ?_ ?_ ?_ <;> first | assumption | exact u64_zero | exact limb_u64 _ _ | exact isU64_mk (by decide +kernel))) (by first | (with_reducible refine IsWide.of ?_; first | assumption | exact add256_w _ _ | exact sub256_w _ _ | exact mulN_w (by assumption) (by assumption) | exact mulN_w (by assumption) (add128_w _ _) | exact w128_256 (by assumption) | exact join_w (by assumption) ⟨by decide⟩) | (with_reducible refine IsWide.val ?_ ?_ ?_ ?_ <;> first | assumption | exact u64_zero | exact limb_u64 _ _ | exact isU64_mk (by decide +kernel))) _).mono ?_; rintro e w' ⟨rfl, hb⟩; replace hE : Known _ w' := Known.step hE (by refine Kept.below ?_; repeat (first | with_reducible exact Kept.refl _ | with_reducible refine Kept.alloc ?_ _ | with_reducible refine Kept.drew ?_ | with_reducible refine Kept.setCell ?_ (by simp) _)) hb; have hR := hE; (simp only [Known, and_true] at hR); replace hk : Kept w.heap.size w w' := Kept.step (by repeat (first | with_reducible exact hk | with_reducible refine Kept.alloc ?_ _ | with_reducible refine Kept.drew ?_ | with_reducible refine Kept.setCell ?_ (by simp; omega) _)) hb; have hz := hb.size; (try simp only [World.size_alloc, World.size_setCell] at hz); clear hb)
    | (go_at_call 45; refine (SubW_at (by first | (with_reducible refine IsWide.of ?_; first | assumption | exact add256_w _ _ | exact sub256_w _ _ | exact mulN_w (by assumption) (by assumption) | exact mulN_w (by assumption) (add128_w _ _) | exact w128_256 (by assumption) | exact join_w (by assumption) ⟨by decide⟩) | (with_reducible refine IsWide.val ?_ ?_ ?_ ?_ <;> first | assumption | exact u64_zero | exact limb_u64 _ _ | exact isU64_mk (by decide +kernel))) (by first | (with_reducible refine IsWide.of ?_; first | assumption | exact add256_w _ _ | exact sub256_w _ _ | exact mulN_w (by assumption) (by assumption) | exact mulN_w (by assumption) (add128_w _ _) | exact w128_256 (by assumption) | exact join_w (by assumption) ⟨by decide⟩) | (with_reducible refine IsWide.val ?_ ?_ ?_ ?_ <;> first | assumption | exact u64_zero | exact limb_u64 _ _ | exact isU64_mk (by decide +kernel))) _).mono ?_; rintro e w' ⟨rfl, hb⟩; replace hE : Known _ w' := Known.step hE (by refine Kept.below ?_; repeat (first | with_reducible exact Kept.refl _ | with_reducible refine Kept.alloc ?_ _ | with_reducible refine Kept.drew ?_ | with_reducible refine Kept.setCell ?_ (by simp) _)) hb; have hR := hE; (simp only [Known, and_true] at hR); replace hk : Kept w.heap.size w w' := Kept.step (by repeat (first | with_reducible exact hk | with_reducible refine Kept.alloc ?_ _ | with_reducible refine Kept.drew ?_ | with_reducible refine Kept.setCell ?_ (by simp; omega) _)) hb; have hz := hb.size; (try simp only [World.size_alloc, World.size_setCell] at hz); clear hb)
    | (go_at_call 46; refine (CmpW_at (by first | (with_reducible refine IsWide.of ?_; first | assumption | exact add256_w _ _ | exact sub256_w _ _ | exact mulN_w (by assumption) (by assumption) | exact mulN_w (by assumption) (add128_w _ _) | exact w128_256 (by assumption) | exact join_w (by assumption) ⟨by decide⟩) | (with_reducible refine IsWide.val ?_ ?_ ?_ ?_ <;> first | assumption | exact u64_zero | exact limb_u64 _ _ | exact isU64_mk (by decide +kernel))) (by first | (with_reducible refine IsWide.of ?_; first | assumption | exact add256_w _ _ | exact sub256_w _ _ | exact mulN_w (by assumption) (by assumption) | exact mulN_w (by assumption) (add128_w _ _) | exact w128_256 (by assumption) | exact join_w (by assumption) ⟨by decide⟩) | (with_reducible refine IsWide.val ?_ ?_ ?_ ?_ <;> first | assumption | exact u64_zero | exact limb_u64 _ _ | exact isU64_mk (by decide +kernel))) _).mono ?_; rintro e w' ⟨rfl, hb⟩; replace hE : Known _ w' := Known.step hE (by refine Kept.below ?_; repeat (first | with_reducible exact Kept.refl _ | with_reducible refine Kept.alloc ?_ _ | with_reducible refine Kept.drew ?_ | with_reducible refine Kept.setCell ?_ (by simp) _)) hb; have hR := hE; (simp only [Known, and_true] at hR); replace hk : Kept w.heap.size w w' := Kept.step (by repeat (first | with_reducible exact hk | with_reducible refine Kept.alloc ?_ _ | with_reducible refine Kept.drew ?_ | with_reducible refine Kept.setCell ?_ (by simp; omega) _)) hb; have hz := hb.size; (try simp only [World.size_alloc, World.size_setCell] at hz); clear hb)
    | (go_at_call 30; refine (counts02_any _).mono ?_; rintro e w' ⟨rfl, hb⟩; replace hE : Known _ w' := Known.step hE (by refine Kept.below ?_; repeat (first | with_reducible exact Kept.refl _ | with_reducible refine Kept.alloc ?_ _ | with_reducible refine Kept.drew ?_ | with_reducible refine Kept.setCell ?_ (by simp) _)) hb; have hR := hE; (simp only [Known, and_true] at hR); replace hk : Kept w.heap.size w w' := Kept.step (by repeat (first | with_reducible exact hk | with_reducible refine Kept.alloc ?_ _ | with_reducible refine Kept.drew ?_ | with_reducible refine Kept.setCell ?_ (by simp; omega) _)) hb; have hz := hb.size; (try simp only [World.size_alloc, World.size_setCell] at hz); clear hb))
  go_ret
  exact ⟨rfl, (by refine Kept.below ?_; repeat (first | with_reducible exact Kept.refl _ | with_reducible exact hk | with_reducible refine Kept.alloc ?_ _ | with_reducible refine Kept.drew ?_ | with_reducible refine Kept.setCell ?_ (by simp; try omega) _))⟩

set_option maxHeartbeats 2000000 in
theorem WideHalves_walk {X A : Nat} (hX : W256 X) (hA : W128 A) (w : World) :
    Calls Try.prog 4 #[wideV X, bitsV A] w fun e w' => e = .returned (.bool true) ∧ Below w.heap.size w w' := by
  have f1 := join_halves X
  have f2 := hi_of hA
  have f3 := lo_of hA
  have hs : ∀ W W' : World, Below W.heap.size W W' → (Kept w.heap.size w W ∧ w.heap.size < W.heap.size ∧ w.heap.size + 1 < W.heap.size ∧ W.cell? ⟨w.heap.size, 0, none⟩ = some (.int .u64 (limb 0 X)) ∧ W.cell? ⟨w.heap.size, 1, none⟩ = some (.int .u64 (limb 1 X)) ∧ W.cell? ⟨w.heap.size, 2, none⟩ = some (.int .u64 (limb 2 X)) ∧ W.cell? ⟨w.heap.size, 3, none⟩ = some (.int .u64 (limb 3 X)) ∧ W.cell? ⟨w.heap.size + 1, 0, none⟩ = some (.int .u64 (limb 1 A)) ∧ W.cell? ⟨w.heap.size + 1, 1, none⟩ = some (.int .u64 (limb 0 A))) → (Kept w.heap.size w W' ∧ w.heap.size < W'.heap.size ∧ w.heap.size + 1 < W'.heap.size ∧ W'.cell? ⟨w.heap.size, 0, none⟩ = some (.int .u64 (limb 0 X)) ∧ W'.cell? ⟨w.heap.size, 1, none⟩ = some (.int .u64 (limb 1 X)) ∧ W'.cell? ⟨w.heap.size, 2, none⟩ = some (.int .u64 (limb 2 X)) ∧ W'.cell? ⟨w.heap.size, 3, none⟩ = some (.int .u64 (limb 3 X)) ∧ W'.cell? ⟨w.heap.size + 1, 0, none⟩ = some (.int .u64 (limb 1 A)) ∧ W'.cell? ⟨w.heap.size + 1, 1, none⟩ = some (.int .u64 (limb 0 A))) := fun W W' hb h => ⟨h.1.step hb, Nat.lt_of_lt_of_le (h.2.1) hb.size, Nat.lt_of_lt_of_le (h.2.2.1) hb.size, (hb.cell (h.2.1)).trans (h.2.2.2.1), (hb.cell (h.2.1)).trans (h.2.2.2.2.1), (hb.cell (h.2.1)).trans (h.2.2.2.2.2.1), (hb.cell (h.2.1)).trans (h.2.2.2.2.2.2.1), (hb.cell (h.2.2.1)).trans (h.2.2.2.2.2.2.2.1), (hb.cell (h.2.2.1)).trans (h.2.2.2.2.2.2.2.2)⟩
  have HS := Lib.hid hs; clear hs
  go_enter Try.func4, Try.ntmps4
  go_wp2
  go_region_held3 (fun W' => Kept w.heap.size w W' ∧ w.heap.size < W'.heap.size ∧ w.heap.size + 1 < W'.heap.size ∧ W'.cell? ⟨w.heap.size, 0, none⟩ = some (.int .u64 (limb 0 X)) ∧ W'.cell? ⟨w.heap.size, 1, none⟩ = some (.int .u64 (limb 1 X)) ∧ W'.cell? ⟨w.heap.size, 2, none⟩ = some (.int .u64 (limb 2 X)) ∧ W'.cell? ⟨w.heap.size, 3, none⟩ = some (.int .u64 (limb 3 X)) ∧ W'.cell? ⟨w.heap.size + 1, 0, none⟩ = some (.int .u64 (limb 1 A)) ∧ W'.cell? ⟨w.heap.size + 1, 1, none⟩ = some (.int .u64 (limb 0 A)))
    ((first | (with_reducible exact HS.out _ _ (by assumption) (by assumption)) | assumption | (with_reducible exact HS.out _ _ ((Below.refl _ _).drew) (by assumption)) | exact ⟨by repeat (first | with_reducible assumption | with_reducible exact Kept.refl _ | with_reducible refine Kept.alloc ?_ _ | with_reducible refine Kept.drew ?_ | with_reducible refine Kept.setCell ?_ (by simp; try omega) _), (by go_simp), (by go_simp), (by go_simp), (by go_simp), (by go_simp), (by go_simp), (by go_simp), (by go_simp)⟩))
    (first
      | (go_at_call 25; refine (High_at (by first | (with_reducible refine IsWide.of ?_; first | assumption | exact add256_w _ _ | exact sub256_w _ _ | exact mulN_w (by assumption) (by assumption) | exact mulN_w (by assumption) (add128_w _ _) | exact w128_256 (by assumption) | exact join_w (by assumption) ⟨by decide⟩) | (with_reducible refine IsWide.val ?_ ?_ ?_ ?_ <;> first | assumption | exact u64_zero | exact limb_u64 _ _ | exact isU64_mk (by decide +kernel))) _).mono ?_; rintro e w' ⟨rfl, hb⟩)
      | (go_at_call 28; refine (Low_at (by first | (with_reducible refine IsWide.of ?_; first | assumption | exact add256_w _ _ | exact sub256_w _ _ | exact mulN_w (by assumption) (by assumption) | exact mulN_w (by assumption) (add128_w _ _) | exact w128_256 (by assumption) | exact join_w (by assumption) ⟨by decide⟩) | (with_reducible refine IsWide.val ?_ ?_ ?_ ?_ <;> first | assumption | exact u64_zero | exact limb_u64 _ _ | exact isU64_mk (by decide +kernel))) _).mono ?_; rintro e w' ⟨rfl, hb⟩)
      | (go_at_call 29; refine (Join_at (by first | (with_reducible refine IsBits.of ?_; first | assumption | exact add128_w _ _ | exact sub128_w _ _ | exact hi_w (by first | assumption | exact w128_256 (by assumption)) | exact lo_w _) | (with_reducible refine IsBits.val ?_ ?_ <;> first | assumption | exact u64_zero | exact limb_u64 _ _ | exact isU64_mk (by decide +kernel))) (by first | (with_reducible refine IsBits.of ?_; first | assumption | exact add128_w _ _ | exact sub128_w _ _ | exact hi_w (by first | assumption | exact w128_256 (by assumption)) | exact lo_w _) | (with_reducible refine IsBits.val ?_ ?_ <;> first | assumption | exact u64_zero | exact limb_u64 _ _ | exact isU64_mk (by decide +kernel))) _).mono ?_; rintro e w' ⟨rfl, hb⟩)
      | (go_at_call 23; refine (Of_at (by first | (with_reducible refine IsBits.of ?_; first | assumption | exact add128_w _ _ | exact sub128_w _ _ | exact hi_w (by first | assumption | exact w128_256 (by assumption)) | exact lo_w _) | (with_reducible refine IsBits.val ?_ ?_ <;> first | assumption | exact u64_zero | exact limb_u64 _ _ | exact isU64_mk (by decide +kernel))) _).mono ?_; rintro e w' ⟨rfl, hb⟩)
      | (go_at_call 31; refine (Zero_at (by first | (with_reducible refine IsBits.of ?_; first | assumption | exact add128_w _ _ | exact sub128_w _ _ | exact hi_w (by first | assumption | exact w128_256 (by assumption)) | exact lo_w _) | (with_reducible refine IsBits.val ?_ ?_ <;> first | assumption | exact u64_zero | exact limb_u64 _ _ | exact isU64_mk (by decide +kernel))) _).mono ?_; rintro e w' ⟨rfl, hb⟩)
      | (go_at_call 30; refine (counts02_any _).mono ?_; rintro e w' ⟨rfl, hb⟩))
  all_goals go_wp2
  all_goals go_ret
  all_goals (refine ⟨rfl, ?_⟩; apply kept_of; assumption)

set_option maxHeartbeats 4000000 in
theorem WideKnown_walk (w : World) :
    Calls Try.prog 16 #[] w fun e w' => e = .returned (.bool true) ∧ Below w.heap.size w w' := by
  have hk := Kept.refl w
  have hE := Known.nil w
  go_enter Try.func16, Try.ntmps16
  go_wp2_with (first
    | (go_at_call 21; refine (MulW_lit _ _ _ _ 1 0 18446744073709551614 18446744073709551615 (by decide +kernel) _).mono ?_; rintro e w' ⟨rfl, hb⟩; replace hE : Known _ w' := Known.step hE (by refine Kept.below ?_; repeat (first | with_reducible exact Kept.refl _ | with_reducible refine Kept.alloc ?_ _ | with_reducible refine Kept.drew ?_ | with_reducible refine Kept.setCell ?_ (by simp) _)) hb; have hR := hE; (simp only [Known, and_true] at hR); replace hk : Kept w.heap.size w w' := Kept.step (by repeat (first | with_reducible exact hk | with_reducible refine Kept.alloc ?_ _ | with_reducible refine Kept.drew ?_ | with_reducible refine Kept.setCell ?_ (by simp; omega) _)) hb; have hz := hb.size; (try simp only [World.size_alloc, World.size_setCell] at hz); clear hb)
    | (go_at_call 33; refine (AddW_lit _ _ _ _ _ _ _ _ 2 0 18446744073709551612 18446744073709551615 true (by decide +kernel) _).mono ?_; rintro e w' ⟨rfl, hb⟩; replace hE : Known _ w' := Known.step hE (by refine Kept.below ?_; repeat (first | with_reducible exact Kept.refl _ | with_reducible refine Kept.alloc ?_ _ | with_reducible refine Kept.drew ?_ | with_reducible refine Kept.setCell ?_ (by simp) _)) hb; have hR := hE; (simp only [Known, and_true] at hR); replace hk : Kept w.heap.size w w' := Kept.step (by repeat (first | with_reducible exact hk | with_reducible refine Kept.alloc ?_ _ | with_reducible refine Kept.drew ?_ | with_reducible refine Kept.setCell ?_ (by simp; omega) _)) hb; have hz := hb.size; (try simp only [World.size_alloc, World.size_setCell] at hz); clear hb)
    | (go_at_call 49; refine (ZeroW_lit _ _ _ _ true (by decide +kernel) _).mono ?_; rintro e w' ⟨rfl, hb⟩; replace hE : Known _ w' := Known.step hE (by refine Kept.below ?_; repeat (first | with_reducible exact Kept.refl _ | with_reducible refine Kept.alloc ?_ _ | with_reducible refine Kept.drew ?_ | with_reducible refine Kept.setCell ?_ (by simp) _)) hb; have hR := hE; (simp only [Known, and_true] at hR); replace hk : Kept w.heap.size w w' := Kept.step (by repeat (first | with_reducible exact hk | with_reducible refine Kept.alloc ?_ _ | with_reducible refine Kept.drew ?_ | with_reducible refine Kept.setCell ?_ (by simp; omega) _)) hb; have hz := hb.size; (try simp only [World.size_alloc, World.size_setCell] at hz); clear hb)
    | (go_at_call 49; refine (ZeroW_lit _ _ _ _ false (by decide +kernel) _).mono ?_; rintro e w' ⟨rfl, hb⟩; replace hE : Known _ w' := Known.step hE (by refine Kept.below ?_; repeat (first | with_reducible exact Kept.refl _ | with_reducible refine Kept.alloc ?_ _ | with_reducible refine Kept.drew ?_ | with_reducible refine Kept.setCell ?_ (by simp) _)) hb; have hR := hE; (simp only [Known, and_true] at hR); replace hk : Kept w.heap.size w w' := Kept.step (by repeat (first | with_reducible exact hk | with_reducible refine Kept.alloc ?_ _ | with_reducible refine Kept.drew ?_ | with_reducible refine Kept.setCell ?_ (by simp; omega) _)) hb; have hz := hb.size; (try simp only [World.size_alloc, World.size_setCell] at hz); clear hb)
    | (go_at_call 46; refine (CmpW_lit _ _ _ _ _ _ _ _ 1 (by decide +kernel) _).mono ?_; rintro e w' ⟨rfl, hb⟩; replace hE : Known _ w' := Known.step hE (by refine Kept.below ?_; repeat (first | with_reducible exact Kept.refl _ | with_reducible refine Kept.alloc ?_ _ | with_reducible refine Kept.drew ?_ | with_reducible refine Kept.setCell ?_ (by simp) _)) hb; have hR := hE; (simp only [Known, and_true] at hR); replace hk : Kept w.heap.size w w' := Kept.step (by repeat (first | with_reducible exact hk | with_reducible refine Kept.alloc ?_ _ | with_reducible refine Kept.drew ?_ | with_reducible refine Kept.setCell ?_ (by simp; omega) _)) hb; have hz := hb.size; (try simp only [World.size_alloc, World.size_setCell] at hz); clear hb)
    | (go_at_call 30; refine (counts02_any _).mono ?_; rintro e w' ⟨rfl, hb⟩; replace hE : Known _ w' := Known.step hE (by refine Kept.below ?_; repeat (first | with_reducible exact Kept.refl _ | with_reducible refine Kept.alloc ?_ _ | with_reducible refine Kept.drew ?_ | with_reducible refine Kept.setCell ?_ (by simp) _)) hb; have hR := hE; (simp only [Known, and_true] at hR); replace hk : Kept w.heap.size w w' := Kept.step (by repeat (first | with_reducible exact hk | with_reducible refine Kept.alloc ?_ _ | with_reducible refine Kept.drew ?_ | with_reducible refine Kept.setCell ?_ (by simp; omega) _)) hb; have hz := hb.size; (try simp only [World.size_alloc, World.size_setCell] at hz); clear hb))
  go_ret
  exact ⟨rfl, (by refine Kept.below ?_; repeat (first | with_reducible exact Kept.refl _ | with_reducible exact hk | with_reducible refine Kept.alloc ?_ _ | with_reducible refine Kept.drew ?_ | with_reducible refine Kept.setCell ?_ (by simp; try omega) _))⟩

end Go.Proofs.Ytohlhmicolnmbaa
