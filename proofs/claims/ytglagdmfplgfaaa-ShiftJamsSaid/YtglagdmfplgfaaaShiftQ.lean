/- The contracts of package shift over 128 bits: Left, Right. -/
import Derived.Test.YtglagdmfplgfaaaShiftP
import Derived.Test.YtglagdmfplgfaaaShift2
set_option linter.unusedVariables false
set_option linter.unusedSimpArgs false
namespace Go.Proofs.Ytglagdmfplgfaaa
open Go.RowKit

/-- 128 bits shifted up -/
def left128 (A : Nat) (n : Int) : Nat := A * 2 ^ n.toNat % 2 ^ 128
theorem left_up2 {A : Nat} {n : Int} (h : 0 ≤ n) : bitsV (shiftZ A n) = bitsV (left128 A n) := by
  unfold bitsV left128 shiftZ
  rw [if_pos h, limb_mod128 0 _ (by omega), limb_mod128 1 _ (by omega)]
theorem left_no2 {A : Nat} {n : Int} (h : n ≤ 0) : bitsV (shiftZ A 0) = bitsV (left128 A n) := by
  rw [left_up2 (by omega)]; unfold left128; rw [show n.toNat = 0 by omega]; rfl
theorem right_far2 {A : Nat} (hA : W128 A) {n : Int} (h : 128 ≤ n) : shiftZ A (-128) = rightN A n := by
  have := hA.lt
  rw [shiftZ_far 2 this (by omega)]
  unfold rightN
  exact (Nat.div_eq_of_lt (Nat.lt_of_lt_of_le this (Nat.pow_le_pow_right (by omega) (by omega)))).symm

set_option maxRecDepth 100000 in
set_option maxHeartbeats 400000 in
theorem parts_any (a1 a0 : Int) (w : World) :
    Calls Try.prog 42 #[.agg #[.int .u64 a1, .int .u64 a0]] w fun e w' => e = .returned (.slice (some ⟨w.heap.size + 1, 0, none⟩) 2 2) ∧ (w.alloc (.cells #[.int .u64 a1, .int .u64 a0] 24)).alloc (.cells #[.int .u64 a0, .int .u64 a1] 22) = w' := by
  go_enter Try.func42, Try.ntmps42
  go_wp2
  go_ret
  exact ⟨by simp, rfl⟩

set_option maxRecDepth 100000 in
set_option maxHeartbeats 800000 in
theorem Left_at {a1 a0 : Int} {A : Nat} (hA : IsBits a1 a0 A) (n : Int) (n0 : -9223372036854775808 ≤ n) (n1 : n ≤ 9223372036854775807) (w : World) :
    Calls Try.prog 11 #[.agg #[.int .u64 a1, .int .u64 a0], .int .i64 n] w fun e w' => e = .returned (bitsV (left128 A n)) ∧ Below w.heap.size w w' := by
  rcases (by omega : 0 < n ∨ n = 0 ∨ n < 0) with k | k | k
  · go_enter Try.func11, Try.ntmps11
    go_wp2_with (first | (go_at_call 42; refine (parts_any _ _ _).mono ?_; rintro e w' ⟨rfl, rfl⟩) | (go_at_call 41; refine (moved2_any (w.heap.size + 1 + 1 + 1) hA n (by omega) (by omega) _ (by simp) (by go_simp) (by go_simp)).mono ?_; rintro e w' ⟨rfl, hk⟩; have hk1 : Kept w.heap.size w w' := Kept.step (by repeat (first | exact Kept.refl _ | refine Kept.alloc ?_ _)) hk; obtain ⟨hc, hf, hl, hm, hn⟩ := bcell hk))
    refine bodyPost_ret (v := bitsV (shiftZ A n)) (by simp [results, Try.results11, go_sem, hc]) rfl ⟨by rw [left_up2 (by omega)], ?_⟩
    refine Kept.below ?_; repeat (first | exact hk1 | refine Kept.alloc ?_ _ | refine Kept.drew ?_ | refine Kept.setCell ?_ (by simp) _)
  · subst k
    go_enter Try.func11, Try.ntmps11
    go_wp2_with (first | (go_at_call 42; refine (parts_any _ _ _).mono ?_; rintro e w' ⟨rfl, rfl⟩) | (go_at_call 41; refine (moved2_any (w.heap.size + 1 + 1 + 1) hA 0 (by omega) (by omega) _ (by simp) (by go_simp) (by go_simp)).mono ?_; rintro e w' ⟨rfl, hk⟩; have hk1 : Kept w.heap.size w w' := Kept.step (by repeat (first | exact Kept.refl _ | refine Kept.alloc ?_ _)) hk; obtain ⟨hc, hf, hl, hm, hn⟩ := bcell hk))
    refine bodyPost_ret (v := bitsV (shiftZ A 0)) (by simp [results, Try.results11, go_sem, hc]) rfl ⟨by rw [left_up2 (by omega)], ?_⟩
    refine Kept.below ?_; repeat (first | exact hk1 | refine Kept.alloc ?_ _ | refine Kept.drew ?_ | refine Kept.setCell ?_ (by simp) _)
  · go_enter Try.func11, Try.ntmps11
    go_wp2_with (first | (go_at_call 42; refine (parts_any _ _ _).mono ?_; rintro e w' ⟨rfl, rfl⟩) | (go_at_call 41; refine (moved2_any (w.heap.size + 1 + 1 + 1) hA 0 (by omega) (by omega) _ (by simp) (by go_simp) (by go_simp)).mono ?_; rintro e w' ⟨rfl, hk⟩; have hk1 : Kept w.heap.size w w' := Kept.step (by repeat (first | exact Kept.refl _ | refine Kept.alloc ?_ _)) hk; obtain ⟨hc, hf, hl, hm, hn⟩ := bcell hk))
    refine bodyPost_ret (v := bitsV (shiftZ A 0)) (by simp [results, Try.results11, go_sem, hc]) rfl ⟨by rw [left_no2 (n := n) (by omega)], ?_⟩
    refine Kept.below ?_; repeat (first | exact hk1 | refine Kept.alloc ?_ _ | refine Kept.drew ?_ | refine Kept.setCell ?_ (by simp) _)

set_option maxRecDepth 100000 in
set_option maxHeartbeats 800000 in
theorem Right_at {a1 a0 : Int} {A : Nat} (hA : IsBits a1 a0 A) (n : Int) (n0 : -9223372036854775808 ≤ n) (n1 : n ≤ 9223372036854775807) (w : World) :
    Calls Try.prog 14 #[.agg #[.int .u64 a1, .int .u64 a0], .int .i64 n] w fun e w' => e = .returned (bitsV (rightN A n)) ∧ Below w.heap.size w w' := by
  rcases (by omega : 128 < n ∨ n = 128 ∨ 0 < n ∧ n < 128 ∨ n = 0 ∨ n < 0) with k | k | k | k | k
  · go_enter Try.func14, Try.ntmps14
    go_wp2_with (first | (go_at_call 42; refine (parts_any _ _ _).mono ?_; rintro e w' ⟨rfl, rfl⟩) | (go_at_call 41; refine (moved2_any (w.heap.size + 1 + 1 + 1) hA (-128) (by omega) (by omega) _ (by simp) (by go_simp) (by go_simp)).mono ?_; rintro e w' ⟨rfl, hk⟩; have hk1 : Kept w.heap.size w w' := Kept.step (by repeat (first | exact Kept.refl _ | refine Kept.alloc ?_ _)) hk; obtain ⟨hc, hf, hl, hm, hn⟩ := bcell hk))
    refine bodyPost_ret (v := bitsV (shiftZ A (-128))) (by simp [results, Try.results14, go_sem, hc]) rfl ⟨by rw [right_far2 (n := n) hA.w (by omega)], ?_⟩
    refine Kept.below ?_; repeat (first | exact hk1 | refine Kept.alloc ?_ _ | refine Kept.drew ?_ | refine Kept.setCell ?_ (by simp) _)
  · subst k
    go_enter Try.func14, Try.ntmps14
    go_wp2_with (first | (go_at_call 42; refine (parts_any _ _ _).mono ?_; rintro e w' ⟨rfl, rfl⟩) | (go_at_call 41; refine (moved2_any (w.heap.size + 1 + 1 + 1) hA (-128) (by omega) (by omega) _ (by simp) (by go_simp) (by go_simp)).mono ?_; rintro e w' ⟨rfl, hk⟩; have hk1 : Kept w.heap.size w w' := Kept.step (by repeat (first | exact Kept.refl _ | refine Kept.alloc ?_ _)) hk; obtain ⟨hc, hf, hl, hm, hn⟩ := bcell hk))
    refine bodyPost_ret (v := bitsV (shiftZ A (-128))) (by simp [results, Try.results14, go_sem, hc]) rfl ⟨by rw [right_far2 (n := 128) hA.w (by omega)], ?_⟩
    refine Kept.below ?_; repeat (first | exact hk1 | refine Kept.alloc ?_ _ | refine Kept.drew ?_ | refine Kept.setCell ?_ (by simp) _)
  · obtain ⟨k, k2⟩ := k
    go_enter Try.func14, Try.ntmps14
    go_wp2_with (first | (go_at_call 42; refine (parts_any _ _ _).mono ?_; rintro e w' ⟨rfl, rfl⟩) | (go_at_call 41; refine (moved2_any (w.heap.size + 1 + 1 + 1) hA (-n) (by omega) (by omega) _ (by simp) (by go_simp) (by go_simp)).mono ?_; rintro e w' ⟨rfl, hk⟩; have hk1 : Kept w.heap.size w w' := Kept.step (by repeat (first | exact Kept.refl _ | refine Kept.alloc ?_ _)) hk; obtain ⟨hc, hf, hl, hm, hn⟩ := bcell hk))
    refine bodyPost_ret (v := bitsV (shiftZ A (-n))) (by simp [results, Try.results14, go_sem, hc]) rfl ⟨by rw [right_down (n := n) (by omega)], ?_⟩
    refine Kept.below ?_; repeat (first | exact hk1 | refine Kept.alloc ?_ _ | refine Kept.drew ?_ | refine Kept.setCell ?_ (by simp) _)
  · subst k
    go_enter Try.func14, Try.ntmps14
    go_wp2_with (first | (go_at_call 42; refine (parts_any _ _ _).mono ?_; rintro e w' ⟨rfl, rfl⟩) | (go_at_call 41; refine (moved2_any (w.heap.size + 1 + 1 + 1) hA 0 (by omega) (by omega) _ (by simp) (by go_simp) (by go_simp)).mono ?_; rintro e w' ⟨rfl, hk⟩; have hk1 : Kept w.heap.size w w' := Kept.step (by repeat (first | exact Kept.refl _ | refine Kept.alloc ?_ _)) hk; obtain ⟨hc, hf, hl, hm, hn⟩ := bcell hk))
    refine bodyPost_ret (v := bitsV (shiftZ A 0)) (by simp [results, Try.results14, go_sem, hc]) rfl ⟨by rw [right_no (n := 0) (by omega)], ?_⟩
    refine Kept.below ?_; repeat (first | exact hk1 | refine Kept.alloc ?_ _ | refine Kept.drew ?_ | refine Kept.setCell ?_ (by simp) _)
  · go_enter Try.func14, Try.ntmps14
    go_wp2_with (first | (go_at_call 42; refine (parts_any _ _ _).mono ?_; rintro e w' ⟨rfl, rfl⟩) | (go_at_call 41; refine (moved2_any (w.heap.size + 1 + 1 + 1) hA 0 (by omega) (by omega) _ (by simp) (by go_simp) (by go_simp)).mono ?_; rintro e w' ⟨rfl, hk⟩; have hk1 : Kept w.heap.size w w' := Kept.step (by repeat (first | exact Kept.refl _ | refine Kept.alloc ?_ _)) hk; obtain ⟨hc, hf, hl, hm, hn⟩ := bcell hk))
    refine bodyPost_ret (v := bitsV (shiftZ A 0)) (by simp [results, Try.results14, go_sem, hc]) rfl ⟨by rw [right_no (n := n) (by omega)], ?_⟩
    refine Kept.below ?_; repeat (first | exact hk1 | refine Kept.alloc ?_ _ | refine Kept.drew ?_ | refine Kept.setCell ?_ (by simp) _)

end Go.Proofs.Ytglagdmfplgfaaa
