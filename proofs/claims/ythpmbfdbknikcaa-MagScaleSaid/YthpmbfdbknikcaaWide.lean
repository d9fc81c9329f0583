/- The contracts of package wide but for sums and products. -/
import Derived.Test.YthpmbfdbknikcaaWord
import Derived.Test.YthpmbfdbknikcaaArrEq
import Derived.Deep.RegionHeld3
set_option linter.unusedVariables false
set_option linter.unusedSimpArgs false
namespace Go.Proofs.Ythpmbfdbknikcaa
open Go.RowKit

/-- the upper half, the lower half, both joined -/
@[irreducible] def hiN (A : Nat) : Nat := A / 2 ^ 128
@[irreducible] def loN (A : Nat) : Nat := A % 2 ^ 128
@[irreducible] def joinN (H L : Nat) : Nat := H * 2 ^ 128 + L
theorem hi_w {A : Nat} (h : W256 A) : W128 (hiN A) := ⟨by have := h.lt; unfold hiN; omega⟩
theorem lo_w (A : Nat) : W128 (loN A) := ⟨by unfold loN; omega⟩
theorem join_w {H L : Nat} (h : W128 H) (l : W128 L) : W256 (joinN H L) := ⟨by have := h.lt; have := l.lt; unfold joinN; omega⟩
theorem hi_limb1 (A : Nat) (_h : A < 2 ^ 256) : limb 3 A = limb 1 (hiN A) := by unfold limb hiN; omega
theorem hi_limb0 (A : Nat) : limb 2 A = limb 0 (hiN A) := by unfold limb hiN; omega
theorem lo_limb (A i : Nat) (h : i < 2) : limb i A = limb i (loN A) := by unfold loN; exact (limb_mod128 i A h).symm
theorem join_limb0 (H L : Nat) : limb 0 L = limb 0 (joinN H L) := by unfold limb joinN; omega
theorem join_limb1 (H L : Nat) : limb 1 L = limb 1 (joinN H L) := by unfold limb joinN; omega
theorem join_limb2 (H L : Nat) (h : L < 2 ^ 128) : limb 0 H = limb 2 (joinN H L) := by unfold limb joinN; omega
theorem join_limb3 (H L : Nat) (h : L < 2 ^ 128) : limb 1 H = limb 3 (joinN H L) := by unfold limb joinN; omega
theorem small_limb (A i : Nat) (h : A < 2 ^ 128) (hi : 2 ≤ i) : limb i A = 0 := by
  unfold limb
  rw [Nat.div_eq_of_lt (Nat.lt_of_lt_of_le h (Nat.pow_le_pow_right (by omega) (by omega)))]; rfl
theorem cmp_halves_hi {A B : Nat} (h : hiN A ≠ hiN B) : cmpN (hiN A) (hiN B) = cmpN A B := by
  unfold cmpN cmpI hiN at *; (repeat' split) <;> omega
theorem cmp_halves_lo {A B : Nat} (h : hiN A = hiN B) : cmpN (loN A) (loN B) = cmpN A B := by
  unfold cmpN cmpI hiN loN at *; (repeat' split) <;> omega

set_option maxRecDepth 100000 in
set_option maxHeartbeats 1000000 in
theorem Of_at {a1 a0 : Int} {A : Nat} (hA : IsBits a1 a0 A) (w : World) :
    Calls Try.prog 19 #[.agg #[.int .u64 a1, .int .u64 a0]] w fun e w' => e = .returned (wideV A) ∧ Below w.heap.size w w' := by
  go_enter Try.func19, Try.ntmps19
  go_wp2
  refine bodyPost_ret (v := .agg #[.int .u64 a0, .int .u64 a1, .int .u64 0, .int .u64 0]) (by simp [results, Try.results19, go_sem]) rfl ⟨?_, (by refine Kept.below ?_; repeat (first | exact Kept.refl _ | refine Kept.alloc ?_ _ | refine Kept.drew ?_ | refine Kept.setCell ?_ (by simp; try omega) _))⟩
  rw [hA.hi, hA.lo]; unfold wideV; rw [small_limb A 2 hA.w.lt (by omega), small_limb A 3 hA.w.lt (by omega)]

set_option maxRecDepth 100000 in
set_option maxHeartbeats 1000000 in
theorem High_at {a0 a1 a2 a3 : Int} {A : Nat} (hA : IsWide a0 a1 a2 a3 A) (w : World) :
    Calls Try.prog 21 #[.agg #[.int .u64 a0, .int .u64 a1, .int .u64 a2, .int .u64 a3]] w fun e w' => e = .returned (bitsV (hiN A)) ∧ Below w.heap.size w w' := by
  go_enter Try.func21, Try.ntmps21
  go_wp2
  refine bodyPost_ret (v := .agg #[.int .u64 a3, .int .u64 a2]) (by simp [results, Try.results21, go_sem]) rfl ⟨?_, (by refine Kept.below ?_; repeat (first | exact Kept.refl _ | refine Kept.alloc ?_ _ | refine Kept.drew ?_ | refine Kept.setCell ?_ (by simp; try omega) _))⟩
  rw [hA.e3, hA.e2, hi_limb1 A hA.w.lt, hi_limb0 A]

set_option maxRecDepth 100000 in
set_option maxHeartbeats 1000000 in
theorem Low_at {a0 a1 a2 a3 : Int} {A : Nat} (hA : IsWide a0 a1 a2 a3 A) (w : World) :
    Calls Try.prog 24 #[.agg #[.int .u64 a0, .int .u64 a1, .int .u64 a2, .int .u64 a3]] w fun e w' => e = .returned (bitsV (loN A)) ∧ Below w.heap.size w w' := by
  go_enter Try.func24, Try.ntmps24
  go_wp2
  refine bodyPost_ret (v := .agg #[.int .u64 a1, .int .u64 a0]) (by simp [results, Try.results24, go_sem]) rfl ⟨?_, (by refine Kept.below ?_; repeat (first | exact Kept.refl _ | refine Kept.alloc ?_ _ | refine Kept.drew ?_ | refine Kept.setCell ?_ (by simp; try omega) _))⟩
  rw [hA.e1, hA.e0, lo_limb A 1 (by omega), lo_limb A 0 (by omega)]

set_option maxRecDepth 100000 in
set_option maxHeartbeats 1000000 in
theorem Join_at {a1 a0 b1 b0 : Int} {A B : Nat} (hA : IsBits a1 a0 A) (hB : IsBits b1 b0 B) (w : World) :
    Calls Try.prog 25 #[.agg #[.int .u64 a1, .int .u64 a0], .agg #[.int .u64 b1, .int .u64 b0]] w fun e w' => e = .returned (wideV (joinN A B)) ∧ Below w.heap.size w w' := by
  go_enter Try.func25, Try.ntmps25
  go_wp2
  refine bodyPost_ret (v := .agg #[.int .u64 b0, .int .u64 b1, .int .u64 a0, .int .u64 a1]) (by simp [results, Try.results25, go_sem]) rfl ⟨?_, (by refine Kept.below ?_; repeat (first | exact Kept.refl _ | refine Kept.alloc ?_ _ | refine Kept.drew ?_ | refine Kept.setCell ?_ (by simp; try omega) _))⟩
  rw [hA.hi, hA.lo, hB.hi, hB.lo, join_limb0 A B, join_limb1 A B, join_limb2 A B hB.w.lt, join_limb3 A B hB.w.lt]

set_option maxRecDepth 100000 in
set_option maxHeartbeats 1000000 in
theorem ZeroW_at {a0 a1 a2 a3 : Int} {A : Nat} (hA : IsWide a0 a1 a2 a3 A) (w : World) :
    Calls Try.prog 45 #[.agg #[.int .u64 a0, .int .u64 a1, .int .u64 a2, .int .u64 a3]] w fun e w' => e = .returned (.bool (zeroB A)) ∧ Below w.heap.size w w' := by
  go_enter Try.func45, Try.ntmps45
  go_wp2
  go_ret
  refine ⟨ret_bool ?_, (by refine Kept.below ?_; repeat (first | exact Kept.refl _ | refine Kept.alloc ?_ _ | refine Kept.drew ?_ | refine Kept.setCell ?_ (by simp; try omega) _))⟩
  rw [eqW_at hA (IsWide.val u64_zero u64_zero u64_zero u64_zero)]; rfl

set_option maxRecDepth 100000 in
set_option maxHeartbeats 1000000 in
theorem CmpW_lt {A B : Nat} (hA : W256 A) (hB : W256 B) (h : hiN A < hiN B) (w : World) :
    Calls Try.prog 44 #[wideV A, wideV B] w fun e w' => e = .returned (.int .i64 (cmpN A B)) ∧ Below w.heap.size w w' := by
  have f1 := cmp_lt h
  have HR := Lib.hid ((cmp_lt h).symm.trans (cmp_halves_hi (Nat.ne_of_lt h)))
  clear h
  have hs : ∀ W W' : World, Below W.heap.size W W' → (Kept w.heap.size w W ∧ w.heap.size < W.heap.size ∧ w.heap.size + 1 < W.heap.size ∧ W.cell? ⟨w.heap.size, 0, none⟩ = some (.int .u64 (limb 0 A)) ∧ W.cell? ⟨w.heap.size, 1, none⟩ = some (.int .u64 (limb 1 A)) ∧ W.cell? ⟨w.heap.size, 2, none⟩ = some (.int .u64 (limb 2 A)) ∧ W.cell? ⟨w.heap.size, 3, none⟩ = some (.int .u64 (limb 3 A)) ∧ W.cell? ⟨w.heap.size + 1, 0, none⟩ = some (.int .u64 (limb 0 B)) ∧ W.cell? ⟨w.heap.size + 1, 1, none⟩ = some (.int .u64 (limb 1 B)) ∧ W.cell? ⟨w.heap.size + 1, 2, none⟩ = some (.int .u64 (limb 2 B)) ∧ W.cell? ⟨w.heap.size + 1, 3, none⟩ = some (.int .u64 (limb 3 B))) → (Kept w.heap.size w W' ∧ w.heap.size < W'.heap.size ∧ w.heap.size + 1 < W'.heap.size ∧ W'.cell? ⟨w.heap.size, 0, none⟩ = some (.int .u64 (limb 0 A)) ∧ W'.cell? ⟨w.heap.size, 1, none⟩ = some (.int .u64 (limb 1 A)) ∧ W'.cell? ⟨w.heap.size, 2, none⟩ = some (.int .u64 (limb 2 A)) ∧ W'.cell? ⟨w.heap.size, 3, none⟩ = some (.int .u64 (limb 3 A)) ∧ W'.cell? ⟨w.heap.size + 1, 0, none⟩ = some (.int .u64 (limb 0 B)) ∧ W'.cell? ⟨w.heap.size + 1, 1, none⟩ = some (.int .u64 (limb 1 B)) ∧ W'.cell? ⟨w.heap.size + 1, 2, none⟩ = some (.int .u64 (limb 2 B)) ∧ W'.cell? ⟨w.heap.size + 1, 3, none⟩ = some (.int .u64 (limb 3 B))) := fun W W' hb h => ⟨h.1.step hb, Nat.lt_of_lt_of_le (h.2.1) hb.size, Nat.lt_of_lt_of_le (h.2.2.1) hb.size, (hb.cell (h.2.1)).trans (h.2.2.2.1), (hb.cell (h.2.1)).trans (h.2.2.2.2.1), (hb.cell (h.2.1)).trans (h.2.2.2.2.2.1), (hb.cell (h.2.1)).trans (h.2.2.2.2.2.2.1), (hb.cell (h.2.2.1)).trans (h.2.2.2.2.2.2.2.1), (hb.cell (h.2.2.1)).trans (h.2.2.2.2.2.2.2.2.1), (hb.cell (h.2.2.1)).trans (h.2.2.2.2.2.2.2.2.2.1), (hb.cell (h.2.2.1)).trans (h.2.2.2.2.2.2.2.2.2.2)⟩
  have HS := Lib.hid hs; clear hs
  go_enter Try.func44, Try.ntmps44
  go_wp2
  go_region_held3 (fun W' => Kept w.heap.size w W' ∧ w.heap.size < W'.heap.size ∧ w.heap.size + 1 < W'.heap.size ∧ W'.cell? ⟨w.heap.size, 0, none⟩ = some (.int .u64 (limb 0 A)) ∧ W'.cell? ⟨w.heap.size, 1, none⟩ = some (.int .u64 (limb 1 A)) ∧ W'.cell? ⟨w.heap.size, 2, none⟩ = some (.int .u64 (limb 2 A)) ∧ W'.cell? ⟨w.heap.size, 3, none⟩ = some (.int .u64 (limb 3 A)) ∧ W'.cell? ⟨w.heap.size + 1, 0, none⟩ = some (.int .u64 (limb 0 B)) ∧ W'.cell? ⟨w.heap.size + 1, 1, none⟩ = some (.int .u64 (limb 1 B)) ∧ W'.cell? ⟨w.heap.size + 1, 2, none⟩ = some (.int .u64 (limb 2 B)) ∧ W'.cell? ⟨w.heap.size + 1, 3, none⟩ = some (.int .u64 (limb 3 B)))
    ((first | exact HS.out _ _ (by assumption) (by assumption) | assumption | exact HS.out _ _ ((Below.refl _ _).drew) (by assumption) | exact ⟨by repeat (first | assumption | exact Kept.refl _ | refine Kept.alloc ?_ _ | refine Kept.drew ?_), by go_simp, by go_simp, by go_simp, by go_simp, by go_simp, by go_simp, by go_simp, by go_simp, by go_simp, by go_simp⟩))
    (first
      | (go_at_call 21; refine (High_at (IsWide.of (by assumption)) _).mono ?_; rintro e w' ⟨rfl, hb⟩)
      | (go_at_call 36; refine (Cmp_at (IsBits.of (hi_w (by assumption))) (IsBits.of (hi_w (by assumption))) _).mono ?_; rintro e w' ⟨rfl, hb⟩))
  all_goals go_wp2
  all_goals go_ret
  all_goals (refine ⟨ret_int (HR.out), ?_⟩; apply kept_of; assumption)

set_option maxRecDepth 100000 in
set_option maxHeartbeats 1000000 in
theorem CmpW_gt {A B : Nat} (hA : W256 A) (hB : W256 B) (h : hiN B < hiN A) (w : World) :
    Calls Try.prog 44 #[wideV A, wideV B] w fun e w' => e = .returned (.int .i64 (cmpN A B)) ∧ Below w.heap.size w w' := by
  have f1 := cmp_gt h
  have HR := Lib.hid ((cmp_gt h).symm.trans (cmp_halves_hi (Nat.ne_of_gt h)))
  clear h
  have hs : ∀ W W' : World, Below W.heap.size W W' → (Kept w.heap.size w W ∧ w.heap.size < W.heap.size ∧ w.heap.size + 1 < W.heap.size ∧ W.cell? ⟨w.heap.size, 0, none⟩ = some (.int .u64 (limb 0 A)) ∧ W.cell? ⟨w.heap.size, 1, none⟩ = some (.int .u64 (limb 1 A)) ∧ W.cell? ⟨w.heap.size, 2, none⟩ = some (.int .u64 (limb 2 A)) ∧ W.cell? ⟨w.heap.size, 3, none⟩ = some (.int .u64 (limb 3 A)) ∧ W.cell? ⟨w.heap.size + 1, 0, none⟩ = some (.int .u64 (limb 0 B)) ∧ W.cell? ⟨w.heap.size + 1, 1, none⟩ = some (.int .u64 (limb 1 B)) ∧ W.cell? ⟨w.heap.size + 1, 2, none⟩ = some (.int .u64 (limb 2 B)) ∧ W.cell? ⟨w.heap.size + 1, 3, none⟩ = some (.int .u64 (limb 3 B))) → (Kept w.heap.size w W' ∧ w.heap.size < W'.heap.size ∧ w.heap.size + 1 < W'.heap.size ∧ W'.cell? ⟨w.heap.size, 0, none⟩ = some (.int .u64 (limb 0 A)) ∧ W'.cell? ⟨w.heap.size, 1, none⟩ = some (.int .u64 (limb 1 A)) ∧ W'.cell? ⟨w.heap.size, 2, none⟩ = some (.int .u64 (limb 2 A)) ∧ W'.cell? ⟨w.heap.size, 3, none⟩ = some (.int .u64 (limb 3 A)) ∧ W'.cell? ⟨w.heap.size + 1, 0, none⟩ = some (.int .u64 (limb 0 B)) ∧ W'.cell? ⟨w.heap.size + 1, 1, none⟩ = some (.int .u64 (limb 1 B)) ∧ W'.cell? ⟨w.heap.size + 1, 2, none⟩ = some (.int .u64 (limb 2 B)) ∧ W'.cell? ⟨w.heap.size + 1, 3, none⟩ = some (.int .u64 (limb 3 B))) := fun W W' hb h => ⟨h.1.step hb, Nat.lt_of_lt_of_le (h.2.1) hb.size, Nat.lt_of_lt_of_le (h.2.2.1) hb.size, (hb.cell (h.2.1)).trans (h.2.2.2.1), (hb.cell (h.2.1)).trans (h.2.2.2.2.1), (hb.cell (h.2.1)).trans (h.2.2.2.2.2.1), (hb.cell (h.2.1)).trans (h.2.2.2.2.2.2.1), (hb.cell (h.2.2.1)).trans (h.2.2.2.2.2.2.2.1), (hb.cell (h.2.2.1)).trans (h.2.2.2.2.2.2.2.2.1), (hb.cell (h.2.2.1)).trans (h.2.2.2.2.2.2.2.2.2.1), (hb.cell (h.2.2.1)).trans (h.2.2.2.2.2.2.2.2.2.2)⟩
  have HS := Lib.hid hs; clear hs
  go_enter Try.func44, Try.ntmps44
  go_wp2
  go_region_held3 (fun W' => Kept w.heap.size w W' ∧ w.heap.size < W'.heap.size ∧ w.heap.size + 1 < W'.heap.size ∧ W'.cell? ⟨w.heap.size, 0, none⟩ = some (.int .u64 (limb 0 A)) ∧ W'.cell? ⟨w.heap.size, 1, none⟩ = some (.int .u64 (limb 1 A)) ∧ W'.cell? ⟨w.heap.size, 2, none⟩ = some (.int .u64 (limb 2 A)) ∧ W'.cell? ⟨w.heap.size, 3, none⟩ = some (.int .u64 (limb 3 A)) ∧ W'.cell? ⟨w.heap.size + 1, 0, none⟩ = some (.int .u64 (limb 0 B)) ∧ W'.cell? ⟨w.heap.size + 1, 1, none⟩ = some (.int .u64 (limb 1 B)) ∧ W'.cell? ⟨w.heap.size + 1, 2, none⟩ = some (.int .u64 (limb 2 B)) ∧ W'.cell? ⟨w.heap.size + 1, 3, none⟩ = some (.int .u64 (limb 3 B)))
    ((first | exact HS.out _ _ (by assumption) (by assumption) | assumption | exact HS.out _ _ ((Below.refl _ _).drew) (by assumption) | exact ⟨by repeat (first | assumption | exact Kept.refl _ | refine Kept.alloc ?_ _ | refine Kept.drew ?_), by go_simp, by go_simp, by go_simp, by go_simp, by go_simp, by go_simp, by go_simp, by go_simp, by go_simp, by go_simp⟩))
    (first
      | (go_at_call 21; refine (High_at (IsWide.of (by assumption)) _).mono ?_; rintro e w' ⟨rfl, hb⟩)
      | (go_at_call 36; refine (Cmp_at (IsBits.of (hi_w (by assumption))) (IsBits.of (hi_w (by assumption))) _).mono ?_; rintro e w' ⟨rfl, hb⟩))
  all_goals go_wp2
  all_goals go_ret
  all_goals (refine ⟨ret_int (HR.out), ?_⟩; apply kept_of; assumption)

set_option maxRecDepth 100000 in
set_option maxHeartbeats 1000000 in
theorem CmpW_eq {A B : Nat} (hA : W256 A) (hB : W256 B) (h : hiN A = hiN B) (w : World) :
    Calls Try.prog 44 #[wideV A, wideV B] w fun e w' => e = .returned (.int .i64 (cmpN A B)) ∧ Below w.heap.size w w' := by
  have f1 : cmpN (hiN A) (hiN B) = 0 := by rw [h]; exact cmp_eq _
  have HR := Lib.hid (cmp_halves_lo h)
  clear h
  have hs : ∀ W W' : World, Below W.heap.size W W' → (Kept w.heap.size w W ∧ w.heap.size < W.heap.size ∧ w.heap.size + 1 < W.heap.size ∧ W.cell? ⟨w.heap.size, 0, none⟩ = some (.int .u64 (limb 0 A)) ∧ W.cell? ⟨w.heap.size, 1, none⟩ = some (.int .u64 (limb 1 A)) ∧ W.cell? ⟨w.heap.size, 2, none⟩ = some (.int .u64 (limb 2 A)) ∧ W.cell? ⟨w.heap.size, 3, none⟩ = some (.int .u64 (limb 3 A)) ∧ W.cell? ⟨w.heap.size + 1, 0, none⟩ = some (.int .u64 (limb 0 B)) ∧ W.cell? ⟨w.heap.size + 1, 1, none⟩ = some (.int .u64 (limb 1 B)) ∧ W.cell? ⟨w.heap.size + 1, 2, none⟩ = some (.int .u64 (limb 2 B)) ∧ W.cell? ⟨w.heap.size + 1, 3, none⟩ = some (.int .u64 (limb 3 B))) → (Kept w.heap.size w W' ∧ w.heap.size < W'.heap.size ∧ w.heap.size + 1 < W'.heap.size ∧ W'.cell? ⟨w.heap.size, 0, none⟩ = some (.int .u64 (limb 0 A)) ∧ W'.cell? ⟨w.heap.size, 1, none⟩ = some (.int .u64 (limb 1 A)) ∧ W'.cell? ⟨w.heap.size, 2, none⟩ = some (.int .u64 (limb 2 A)) ∧ W'.cell? ⟨w.heap.size, 3, none⟩ = some (.int .u64 (limb 3 A)) ∧ W'.cell? ⟨w.heap.size + 1, 0, none⟩ = some (.int .u64 (limb 0 B)) ∧ W'.cell? ⟨w.heap.size + 1, 1, none⟩ = some (.int .u64 (limb 1 B)) ∧ W'.cell? ⟨w.heap.size + 1, 2, none⟩ = some (.int .u64 (limb 2 B)) ∧ W'.cell? ⟨w.heap.size + 1, 3, none⟩ = some (.int .u64 (limb 3 B))) := fun W W' hb h => ⟨h.1.step hb, Nat.lt_of_lt_of_le (h.2.1) hb.size, Nat.lt_of_lt_of_le (h.2.2.1) hb.size, (hb.cell (h.2.1)).trans (h.2.2.2.1), (hb.cell (h.2.1)).trans (h.2.2.2.2.1), (hb.cell (h.2.1)).trans (h.2.2.2.2.2.1), (hb.cell (h.2.1)).trans (h.2.2.2.2.2.2.1), (hb.cell (h.2.2.1)).trans (h.2.2.2.2.2.2.2.1), (hb.cell (h.2.2.1)).trans (h.2.2.2.2.2.2.2.2.1), (hb.cell (h.2.2.1)).trans (h.2.2.2.2.2.2.2.2.2.1), (hb.cell (h.2.2.1)).trans (h.2.2.2.2.2.2.2.2.2.2)⟩
  have HS := Lib.hid hs; clear hs
  go_enter Try.func44, Try.ntmps44
  go_wp2
  go_region_held3 (fun W' => Kept w.heap.size w W' ∧ w.heap.size < W'.heap.size ∧ w.heap.size + 1 < W'.heap.size ∧ W'.cell? ⟨w.heap.size, 0, none⟩ = some (.int .u64 (limb 0 A)) ∧ W'.cell? ⟨w.heap.size, 1, none⟩ = some (.int .u64 (limb 1 A)) ∧ W'.cell? ⟨w.heap.size, 2, none⟩ = some (.int .u64 (limb 2 A)) ∧ W'.cell? ⟨w.heap.size, 3, none⟩ = some (.int .u64 (limb 3 A)) ∧ W'.cell? ⟨w.heap.size + 1, 0, none⟩ = some (.int .u64 (limb 0 B)) ∧ W'.cell? ⟨w.heap.size + 1, 1, none⟩ = some (.int .u64 (limb 1 B)) ∧ W'.cell? ⟨w.heap.size + 1, 2, none⟩ = some (.int .u64 (limb 2 B)) ∧ W'.cell? ⟨w.heap.size + 1, 3, none⟩ = some (.int .u64 (limb 3 B)))
    ((first | exact HS.out _ _ (by assumption) (by assumption) | assumption | exact HS.out _ _ ((Below.refl _ _).drew) (by assumption) | exact ⟨by repeat (first | assumption | exact Kept.refl _ | refine Kept.alloc ?_ _ | refine Kept.drew ?_), by go_simp, by go_simp, by go_simp, by go_simp, by go_simp, by go_simp, by go_simp, by go_simp, by go_simp, by go_simp⟩))
    (first
      | (go_at_call 21; refine (High_at (IsWide.of (by assumption)) _).mono ?_; rintro e w' ⟨rfl, hb⟩)
      | (go_at_call 36; refine (Cmp_at (IsBits.of (hi_w (by assumption))) (IsBits.of (hi_w (by assumption))) _).mono ?_; rintro e w' ⟨rfl, hb⟩))
  all_goals go_wp2
  all_goals (go_region_held3 (fun W' => Kept w.heap.size w W' ∧ w.heap.size < W'.heap.size ∧ w.heap.size + 1 < W'.heap.size ∧ W'.cell? ⟨w.heap.size, 0, none⟩ = some (.int .u64 (limb 0 A)) ∧ W'.cell? ⟨w.heap.size, 1, none⟩ = some (.int .u64 (limb 1 A)) ∧ W'.cell? ⟨w.heap.size, 2, none⟩ = some (.int .u64 (limb 2 A)) ∧ W'.cell? ⟨w.heap.size, 3, none⟩ = some (.int .u64 (limb 3 A)) ∧ W'.cell? ⟨w.heap.size + 1, 0, none⟩ = some (.int .u64 (limb 0 B)) ∧ W'.cell? ⟨w.heap.size + 1, 1, none⟩ = some (.int .u64 (limb 1 B)) ∧ W'.cell? ⟨w.heap.size + 1, 2, none⟩ = some (.int .u64 (limb 2 B)) ∧ W'.cell? ⟨w.heap.size + 1, 3, none⟩ = some (.int .u64 (limb 3 B)))
    ((first | exact HS.out _ _ (by assumption) (by assumption) | assumption | exact HS.out _ _ ((Below.refl _ _).drew) (by assumption) | exact ⟨by repeat (first | assumption | exact Kept.refl _ | refine Kept.alloc ?_ _ | refine Kept.drew ?_), by go_simp, by go_simp, by go_simp, by go_simp, by go_simp, by go_simp, by go_simp, by go_simp, by go_simp, by go_simp⟩))
    (first
      | (go_at_call 24; refine (Low_at (IsWide.of (by assumption)) _).mono ?_; rintro e w' ⟨rfl, hb⟩)
      | (go_at_call 36; refine (Cmp_at (IsBits.of (lo_w _)) (IsBits.of (lo_w _)) _).mono ?_; rintro e w' ⟨rfl, hb⟩)))
  all_goals go_wp2
  all_goals go_ret
  all_goals (refine ⟨ret_int (HR.out), ?_⟩; apply kept_of; assumption)

theorem CmpW_at {a0 a1 a2 a3 b0 b1 b2 b3 : Int} {A B : Nat} (hA : IsWide a0 a1 a2 a3 A) (hB : IsWide b0 b1 b2 b3 B) (w : World) :
    Calls Try.prog 44 #[.agg #[.int .u64 a0, .int .u64 a1, .int .u64 a2, .int .u64 a3], .agg #[.int .u64 b0, .int .u64 b1, .int .u64 b2, .int .u64 b3]] w fun e w' => e = .returned (.int .i64 (cmpN A B)) ∧ Below w.heap.size w w' := by
  rw [hA.e0, hA.e1, hA.e2, hA.e3, hB.e0, hB.e1, hB.e2, hB.e3]
  rcases Nat.lt_trichotomy (hiN A) (hiN B) with h | h | h
  · exact CmpW_lt hA.w hB.w h w
  · exact CmpW_eq hA.w hB.w h w
  · exact CmpW_gt hA.w hB.w h w
end Go.Proofs.Ythpmbfdbknikcaa
