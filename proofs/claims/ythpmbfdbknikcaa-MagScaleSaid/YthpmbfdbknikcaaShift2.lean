/- The contracts of package shift over 256 bits: WideLeft, WideRight, Lost, WideJam. -/
import Derived.Test.YthpmbfdbknikcaaShift
set_option linter.unusedVariables false
set_option linter.unusedSimpArgs false
namespace Go.Proofs.Ythpmbfdbknikcaa
open Go.RowKit

/-- 256 bits shifted up, and down -/
def left256 (A : Nat) (n : Int) : Nat := A * 2 ^ n.toNat % 2 ^ 256
def rightN (A : Nat) (n : Int) : Nat := A / 2 ^ n.toNat

theorem left_up {A : Nat} {n : Int} (h : 0 ≤ n) : wideV (shiftZ A n) = wideV (left256 A n) := by
  unfold wideV left256 shiftZ
  rw [if_pos h, limb_mod256 0 _ (by omega), limb_mod256 1 _ (by omega), limb_mod256 2 _ (by omega), limb_mod256 3 _ (by omega)]
theorem left_no {A : Nat} (_hA : W256 A) {n : Int} (h : n ≤ 0) : wideV (shiftZ A 0) = wideV (left256 A n) := by
  rw [left_up (by omega)]; unfold left256; rw [show n.toNat = 0 by omega]; rfl
theorem right_down {A : Nat} {n : Int} (h : 0 < n) : shiftZ A (-n) = rightN A n := by
  unfold rightN shiftZ; rw [if_neg (by omega), Int.neg_neg]
theorem right_no {A : Nat} {n : Int} (h : n ≤ 0) : shiftZ A 0 = rightN A n := by
  unfold rightN shiftZ; rw [if_pos (by omega), show n.toNat = 0 by omega]; simp
theorem right_far {A : Nat} (hA : W256 A) {n : Int} (h : 256 ≤ n) : shiftZ A (-256) = rightN A n := by
  have := hA.lt
  rw [shiftZ_far 4 this (by omega)]
  unfold rightN
  exact (Nat.div_eq_of_lt (Nat.lt_of_lt_of_le this (Nat.pow_le_pow_right (by omega) (by omega)))).symm

set_option maxRecDepth 100000 in
set_option maxHeartbeats 800000 in
theorem WideLeft_at {a0 a1 a2 a3 : Int} {A : Nat} (hA : IsWide a0 a1 a2 a3 A) (n : Int) (n0 : -9223372036854775808 ≤ n) (n1 : n ≤ 9223372036854775807) (w : World) :
    Calls Try.prog 86 #[.agg #[.int .u64 a0, .int .u64 a1, .int .u64 a2, .int .u64 a3], .int .i64 n] w fun e w' => e = .returned (wideV (left256 A n)) ∧ Below w.heap.size w w' := by
  rcases Int.lt_trichotomy 0 n with k | k | k
  · go_enter Try.func86, Try.ntmps86
    go_wp2_with fail
    refine (moved4_any w.heap.size hA n (by omega) (by omega) _ (by simp only [World.size_alloc]; omega) (by go_simp) (by go_simp) (by go_simp) (by go_simp)).mono ?_
    rintro e w' ⟨rfl, hk⟩
    have hk1 : Kept w.heap.size w w' := Kept.step (((Kept.refl w).alloc _).alloc _) hk
    obtain ⟨hc, hf, hl, hm, hn⟩ := bcell hk
    go_wp2
    refine bodyPost_ret (v := wideV (shiftZ A n)) (by simp [results, Try.results86, go_sem, hc]) rfl ⟨by rw [left_up (by omega)], ?_⟩
    refine Kept.below ?_; repeat (first | exact hk1 | refine Kept.alloc ?_ _ | refine Kept.drew ?_ | refine Kept.setCell ?_ (by simp) _)
  · subst k
    go_enter Try.func86, Try.ntmps86
    go_wp2_with fail
    refine (moved4_any w.heap.size hA 0 (by omega) (by omega) _ (by simp only [World.size_alloc]; omega) (by go_simp) (by go_simp) (by go_simp) (by go_simp)).mono ?_
    rintro e w' ⟨rfl, hk⟩
    have hk1 : Kept w.heap.size w w' := Kept.step (((Kept.refl w).alloc _).alloc _) hk
    obtain ⟨hc, hf, hl, hm, hn⟩ := bcell hk
    go_wp2
    refine bodyPost_ret (v := wideV (shiftZ A 0)) (by simp [results, Try.results86, go_sem, hc]) rfl ⟨by rw [left_up (by omega)], ?_⟩
    refine Kept.below ?_; repeat (first | exact hk1 | refine Kept.alloc ?_ _ | refine Kept.drew ?_ | refine Kept.setCell ?_ (by simp) _)
  · go_enter Try.func86, Try.ntmps86
    go_wp2_with fail
    refine (moved4_any w.heap.size hA 0 (by omega) (by omega) _ (by simp only [World.size_alloc]; omega) (by go_simp) (by go_simp) (by go_simp) (by go_simp)).mono ?_
    rintro e w' ⟨rfl, hk⟩
    have hk1 : Kept w.heap.size w w' := Kept.step (((Kept.refl w).alloc _).alloc _) hk
    obtain ⟨hc, hf, hl, hm, hn⟩ := bcell hk
    go_wp2
    refine bodyPost_ret (v := wideV (shiftZ A 0)) (by simp [results, Try.results86, go_sem, hc]) rfl ⟨by rw [left_no (n := n) hA.w (by omega)], ?_⟩
    refine Kept.below ?_; repeat (first | exact hk1 | refine Kept.alloc ?_ _ | refine Kept.drew ?_ | refine Kept.setCell ?_ (by simp) _)

set_option maxRecDepth 100000 in
set_option maxHeartbeats 800000 in
theorem WideRight_at {a0 a1 a2 a3 : Int} {A : Nat} (hA : IsWide a0 a1 a2 a3 A) (n : Int) (n0 : -9223372036854775808 ≤ n) (n1 : n ≤ 9223372036854775807) (w : World) :
    Calls Try.prog 73 #[.agg #[.int .u64 a0, .int .u64 a1, .int .u64 a2, .int .u64 a3], .int .i64 n] w fun e w' => e = .returned (wideV (rightN A n)) ∧ Below w.heap.size w w' := by
  rcases Int.lt_trichotomy 0 n with k | k | k
  · rcases Int.lt_trichotomy 256 n with k2 | k2 | k2
    · go_enter Try.func73, Try.ntmps73
      go_wp2_with fail
      refine (moved4_any w.heap.size hA (-256) (by omega) (by omega) _ (by simp only [World.size_alloc]; omega) (by go_simp) (by go_simp) (by go_simp) (by go_simp)).mono ?_
      rintro e w' ⟨rfl, hk⟩
      have hk1 : Kept w.heap.size w w' := Kept.step (((Kept.refl w).alloc _).alloc _) hk
      obtain ⟨hc, hf, hl, hm, hn⟩ := bcell hk
      go_wp2
      refine bodyPost_ret (v := wideV (shiftZ A (-256))) (by simp [results, Try.results73, go_sem, hc]) rfl ⟨by rw [right_far (n := n) hA.w (by omega)], ?_⟩
      refine Kept.below ?_; repeat (first | exact hk1 | refine Kept.alloc ?_ _ | refine Kept.drew ?_ | refine Kept.setCell ?_ (by simp) _)
    · subst k2
      go_enter Try.func73, Try.ntmps73
      go_wp2_with fail
      refine (moved4_any w.heap.size hA (-256) (by omega) (by omega) _ (by simp only [World.size_alloc]; omega) (by go_simp) (by go_simp) (by go_simp) (by go_simp)).mono ?_
      rintro e w' ⟨rfl, hk⟩
      have hk1 : Kept w.heap.size w w' := Kept.step (((Kept.refl w).alloc _).alloc _) hk
      obtain ⟨hc, hf, hl, hm, hn⟩ := bcell hk
      go_wp2
      refine bodyPost_ret (v := wideV (shiftZ A (-256))) (by simp [results, Try.results73, go_sem, hc]) rfl ⟨by rw [right_far (n := 256) hA.w (by omega)], ?_⟩
      refine Kept.below ?_; repeat (first | exact hk1 | refine Kept.alloc ?_ _ | refine Kept.drew ?_ | refine Kept.setCell ?_ (by simp) _)
    · go_enter Try.func73, Try.ntmps73
      go_wp2_with fail
      refine (moved4_any w.heap.size hA (-n) (by omega) (by omega) _ (by simp only [World.size_alloc]; omega) (by go_simp) (by go_simp) (by go_simp) (by go_simp)).mono ?_
      rintro e w' ⟨rfl, hk⟩
      have hk1 : Kept w.heap.size w w' := Kept.step (((Kept.refl w).alloc _).alloc _) hk
      obtain ⟨hc, hf, hl, hm, hn⟩ := bcell hk
      go_wp2
      refine bodyPost_ret (v := wideV (shiftZ A (-n))) (by simp [results, Try.results73, go_sem, hc]) rfl ⟨by rw [right_down (n := n) (by omega)], ?_⟩
      refine Kept.below ?_; repeat (first | exact hk1 | refine Kept.alloc ?_ _ | refine Kept.drew ?_ | refine Kept.setCell ?_ (by simp) _)
  · subst k
    go_enter Try.func73, Try.ntmps73
    go_wp2_with fail
    refine (moved4_any w.heap.size hA 0 (by omega) (by omega) _ (by simp only [World.size_alloc]; omega) (by go_simp) (by go_simp) (by go_simp) (by go_simp)).mono ?_
    rintro e w' ⟨rfl, hk⟩
    have hk1 : Kept w.heap.size w w' := Kept.step (((Kept.refl w).alloc _).alloc _) hk
    obtain ⟨hc, hf, hl, hm, hn⟩ := bcell hk
    go_wp2
    refine bodyPost_ret (v := wideV (shiftZ A 0)) (by simp [results, Try.results73, go_sem, hc]) rfl ⟨by rw [right_no (n := 0) (by omega)], ?_⟩
    refine Kept.below ?_; repeat (first | exact hk1 | refine Kept.alloc ?_ _ | refine Kept.drew ?_ | refine Kept.setCell ?_ (by simp) _)
  · go_enter Try.func73, Try.ntmps73
    go_wp2_with fail
    refine (moved4_any w.heap.size hA 0 (by omega) (by omega) _ (by simp only [World.size_alloc]; omega) (by go_simp) (by go_simp) (by go_simp) (by go_simp)).mono ?_
    rintro e w' ⟨rfl, hk⟩
    have hk1 : Kept w.heap.size w w' := Kept.step (((Kept.refl w).alloc _).alloc _) hk
    obtain ⟨hc, hf, hl, hm, hn⟩ := bcell hk
    go_wp2
    refine bodyPost_ret (v := wideV (shiftZ A 0)) (by simp [results, Try.results73, go_sem, hc]) rfl ⟨by rw [right_no (n := n) (by omega)], ?_⟩
    refine Kept.below ?_; repeat (first | exact hk1 | refine Kept.alloc ?_ _ | refine Kept.drew ?_ | refine Kept.setCell ?_ (by simp) _)
end Go.Proofs.Ythpmbfdbknikcaa
