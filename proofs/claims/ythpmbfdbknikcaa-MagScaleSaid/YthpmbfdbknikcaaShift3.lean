/- The contracts of package shift over 256 bits: Lost, WideJam. -/
import Derived.Test.YthpmbfdbknikcaaShift2
import Derived.Test.YthpmbfdbknikcaaArrEq
set_option linter.unusedVariables false
set_option linter.unusedSimpArgs false
namespace Go.Proofs.Ythpmbfdbknikcaa
open Go.RowKit

def lostB (A : Nat) (n : Int) : Bool := decide (A % 2 ^ n.toNat ≠ 0)
theorem right_w {A : Nat} (hA : W256 A) (n : Int) : W256 (rightN A n) := ⟨Nat.lt_of_le_of_lt (Nat.div_le_self _ _) hA.lt⟩
theorem left_w (A : Nat) (n : Int) : W256 (left256 A n) := ⟨Nat.mod_lt _ (by omega)⟩
theorem back_lost {A : Nat} (hA : W256 A) (n : Int) : left256 (rightN A n) n = A - A % 2 ^ n.toNat := by
  have := hA.lt
  have h := Nat.div_add_mod A (2 ^ n.toNat)
  rw [Nat.mul_comm] at h
  unfold left256 rightN
  have h2 : A / 2 ^ n.toNat * 2 ^ n.toNat = A - A % 2 ^ n.toNat := by omega
  rw [h2, Nat.mod_eq_of_lt (by omega)]

set_option maxRecDepth 100000 in
set_option maxHeartbeats 2000000 in
theorem Lost_no {A : Nat} (hA : W256 A) (n : Int) (n0 : -9223372036854775808 ≤ n) (n1 : n ≤ 9223372036854775807) (h : left256 (rightN A n) n = A) (w : World) :
    Calls Try.prog 74 #[wideV A, .int .i64 n] w fun e w' => e = .returned (.bool false) ∧ Below w.heap.size w w' := by
  have f1 := h
  have hs : ∀ W W' : World, Below W.heap.size W W' → (Kept w.heap.size w W ∧ w.heap.size < W.heap.size ∧ W.cell? ⟨w.heap.size, 0, none⟩ = some (.int .u64 (limb 0 A)) ∧ W.cell? ⟨w.heap.size, 1, none⟩ = some (.int .u64 (limb 1 A)) ∧ W.cell? ⟨w.heap.size, 2, none⟩ = some (.int .u64 (limb 2 A)) ∧ W.cell? ⟨w.heap.size, 3, none⟩ = some (.int .u64 (limb 3 A))) → (Kept w.heap.size w W' ∧ w.heap.size < W'.heap.size ∧ W'.cell? ⟨w.heap.size, 0, none⟩ = some (.int .u64 (limb 0 A)) ∧ W'.cell? ⟨w.heap.size, 1, none⟩ = some (.int .u64 (limb 1 A)) ∧ W'.cell? ⟨w.heap.size, 2, none⟩ = some (.int .u64 (limb 2 A)) ∧ W'.cell? ⟨w.heap.size, 3, none⟩ = some (.int .u64 (limb 3 A))) := fun W W' hb h => ⟨h.1.step hb, Nat.lt_of_lt_of_le (h.2.1) hb.size, (hb.cell (h.2.1)).trans (h.2.2.1), (hb.cell (h.2.1)).trans (h.2.2.2.1), (hb.cell (h.2.1)).trans (h.2.2.2.2.1), (hb.cell (h.2.1)).trans (h.2.2.2.2.2)⟩
  have HS := Lib.hid hs; clear hs
  go_enter Try.func74, Try.ntmps74
  go_wp2
  go_region_held3 (fun W' => Kept w.heap.size w W' ∧ w.heap.size < W'.heap.size ∧ W'.cell? ⟨w.heap.size, 0, none⟩ = some (.int .u64 (limb 0 A)) ∧ W'.cell? ⟨w.heap.size, 1, none⟩ = some (.int .u64 (limb 1 A)) ∧ W'.cell? ⟨w.heap.size, 2, none⟩ = some (.int .u64 (limb 2 A)) ∧ W'.cell? ⟨w.heap.size, 3, none⟩ = some (.int .u64 (limb 3 A)))
    ((first | exact HS.out _ _ (by assumption) (by assumption) | assumption | exact ⟨by repeat (first | exact Kept.refl _ | refine Kept.alloc ?_ _ | refine Kept.drew ?_), by go_simp, by go_simp, by go_simp, by go_simp, by go_simp⟩))
    (first
      | (go_at_call 73; refine (WideRight_at (by first | (refine IsWide.of ?_; first | assumption | exact right_w hA _ | exact left_w _ _) | (refine IsWide.val ?_ ?_ ?_ ?_ <;> first | assumption | exact u64_zero | exact limb_u64 _ _)) n n0 n1 _).mono ?_; rintro e w' ⟨rfl, hb⟩)
      | (go_at_call 86; refine (WideLeft_at (by first | (refine IsWide.of ?_; first | assumption | exact right_w hA _ | exact left_w _ _) | (refine IsWide.val ?_ ?_ ?_ ?_ <;> first | assumption | exact u64_zero | exact limb_u64 _ _)) n n0 n1 _).mono ?_; rintro e w' ⟨rfl, hb⟩))
  all_goals go_wp2
  all_goals go_ret
  all_goals (refine ⟨rfl, ?_⟩; apply kept_of; assumption)

set_option maxRecDepth 100000 in
set_option maxHeartbeats 2000000 in
theorem Lost_yes {A : Nat} (hA : W256 A) (n : Int) (n0 : -9223372036854775808 ≤ n) (n1 : n ≤ 9223372036854775807) (h : left256 (rightN A n) n ≠ A) (w : World) :
    Calls Try.prog 74 #[wideV A, .int .i64 n] w fun e w' => e = .returned (.bool true) ∧ Below w.heap.size w w' := by
  have f1 := eqN_no (left_w (rightN A n) n) hA h
  clear h
  have hs : ∀ W W' : World, Below W.heap.size W W' → (Kept w.heap.size w W ∧ w.heap.size < W.heap.size ∧ W.cell? ⟨w.heap.size, 0, none⟩ = some (.int .u64 (limb 0 A)) ∧ W.cell? ⟨w.heap.size, 1, none⟩ = some (.int .u64 (limb 1 A)) ∧ W.cell? ⟨w.heap.size, 2, none⟩ = some (.int .u64 (limb 2 A)) ∧ W.cell? ⟨w.heap.size, 3, none⟩ = some (.int .u64 (limb 3 A))) → (Kept w.heap.size w W' ∧ w.heap.size < W'.heap.size ∧ W'.cell? ⟨w.heap.size, 0, none⟩ = some (.int .u64 (limb 0 A)) ∧ W'.cell? ⟨w.heap.size, 1, none⟩ = some (.int .u64 (limb 1 A)) ∧ W'.cell? ⟨w.heap.size, 2, none⟩ = some (.int .u64 (limb 2 A)) ∧ W'.cell? ⟨w.heap.size, 3, none⟩ = some (.int .u64 (limb 3 A))) := fun W W' hb h => ⟨h.1.step hb, Nat.lt_of_lt_of_le (h.2.1) hb.size, (hb.cell (h.2.1)).trans (h.2.2.1), (hb.cell (h.2.1)).trans (h.2.2.2.1), (hb.cell (h.2.1)).trans (h.2.2.2.2.1), (hb.cell (h.2.1)).trans (h.2.2.2.2.2)⟩
  have HS := Lib.hid hs; clear hs
  go_enter Try.func74, Try.ntmps74
  go_wp2
  go_region_held3 (fun W' => Kept w.heap.size w W' ∧ w.heap.size < W'.heap.size ∧ W'.cell? ⟨w.heap.size, 0, none⟩ = some (.int .u64 (limb 0 A)) ∧ W'.cell? ⟨w.heap.size, 1, none⟩ = some (.int .u64 (limb 1 A)) ∧ W'.cell? ⟨w.heap.size, 2, none⟩ = some (.int .u64 (limb 2 A)) ∧ W'.cell? ⟨w.heap.size, 3, none⟩ = some (.int .u64 (limb 3 A)))
    ((first | exact HS.out _ _ (by assumption) (by assumption) | assumption | exact ⟨by repeat (first | exact Kept.refl _ | refine Kept.alloc ?_ _ | refine Kept.drew ?_), by go_simp, by go_simp, by go_simp, by go_simp, by go_simp⟩))
    (first
      | (go_at_call 73; refine (WideRight_at (by first | (refine IsWide.of ?_; first | assumption | exact right_w hA _ | exact left_w _ _) | (refine IsWide.val ?_ ?_ ?_ ?_ <;> first | assumption | exact u64_zero | exact limb_u64 _ _)) n n0 n1 _).mono ?_; rintro e w' ⟨rfl, hb⟩)
      | (go_at_call 86; refine (WideLeft_at (by first | (refine IsWide.of ?_; first | assumption | exact right_w hA _ | exact left_w _ _) | (refine IsWide.val ?_ ?_ ?_ ?_ <;> first | assumption | exact u64_zero | exact limb_u64 _ _)) n n0 n1 _).mono ?_; rintro e w' ⟨rfl, hb⟩))
  all_goals go_wp2
  all_goals go_ret
  all_goals (refine ⟨rfl, ?_⟩; apply kept_of; assumption)

theorem lost_of {A : Nat} (hA : W256 A) (n : Int) : lostB A n = decide (left256 (rightN A n) n ≠ A) := by
  unfold lostB
  rw [back_lost hA, decide_eq_decide]
  have := Nat.mod_le A (2 ^ n.toNat)
  omega
theorem Lost_at {a0 a1 a2 a3 : Int} {A : Nat} (hA : IsWide a0 a1 a2 a3 A) (n : Int) (n0 : -9223372036854775808 ≤ n) (n1 : n ≤ 9223372036854775807) (w : World) :
    Calls Try.prog 74 #[.agg #[.int .u64 a0, .int .u64 a1, .int .u64 a2, .int .u64 a3], .int .i64 n] w fun e w' => e = .returned (.bool (lostB A n)) ∧ Below w.heap.size w w' := by
  rw [hA.e0, hA.e1, hA.e2, hA.e3, lost_of hA.w]
  by_cases h : left256 (rightN A n) n = A
  · rw [decide_eq_false (by simpa using h)]
    exact Lost_no hA.w n n0 n1 h w
  · rw [decide_eq_true h]
    exact Lost_yes hA.w n n0 n1 h w

end Go.Proofs.Ythpmbfdbknikcaa
