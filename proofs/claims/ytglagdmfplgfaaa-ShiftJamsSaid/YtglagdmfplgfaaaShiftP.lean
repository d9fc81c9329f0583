/- The contracts of package shift over 128 bits: moved over 2 parts. -/
import Derived.Test.YtglagdmfplgfaaaShift
set_option linter.unusedVariables false
set_option linter.unusedSimpArgs false
namespace Go.Proofs.Ytglagdmfplgfaaa
open Go.RowKit

set_option maxRecDepth 100000 in
set_option maxHeartbeats 400000 in
theorem two_any (b : Nat) (a0 a1 : Int) (w : World) (hb : b < w.heap.size) (h0 : w.cell? ⟨b, 0, none⟩ = some (.int .u64 a0)) (h1 : w.cell? ⟨b, 1, none⟩ = some (.int .u64 a1)) :
    Calls Try.prog 43 #[.slice (some ⟨b, 0, none⟩) 2 2] w fun e w' => e = .returned (.agg #[.int .u64 a1, .int .u64 a0]) ∧ Below w.heap.size w w' := by
  go_enter Try.func43, Try.ntmps43
  go_wp2
  go_region
  all_goals go_wp2
  all_goals refine bodyPost_ret (v := .agg #[.int .u64 a1, .int .u64 a0]) (by simp [results, Try.results43, go_sem]) rfl ⟨rfl, ?_⟩
  all_goals (refine Kept.below ?_; repeat (first | exact Kept.refl _ | refine Kept.alloc ?_ _ | refine Kept.drew ?_ | refine Kept.setCell ?_ (by simp; try omega) _))

set_option maxRecDepth 100000 in
set_option maxHeartbeats 1000000 in
theorem moved2_mid (b : Nat) (a0 a1 : Int) (u0 : U64 a0) (u1 : U64 a1) (n : Int) (w : World) (hb : b < w.heap.size) (hn1 : -128 < n) (hn2 : n < 128) (s : Nat) (hs : s < 64) (hA : bits .and .i64 n 63 = (s : Int)) (hq : n % 64 = s) (h0 : w.cell? ⟨b, 0, none⟩ = some (.int .u64 a0)) (h1 : w.cell? ⟨b, 1, none⟩ = some (.int .u64 a1)) :
    Calls Try.prog 41 #[.slice (some ⟨b, 0, none⟩) 2 2, .int .i64 n, .func (.func 43) #[] #[]] w fun e w' => e = .returned (bitsV (shiftZ (val2 a0 a1) n)) ∧ Below w.heap.size w w' := by
  have E0 := moved2_at u0 u1 (n := n) (q := -(n / 64)) 0 s (by omega) hq hs
  have E1 := moved2_at u0 u1 (n := n) (q := 1 - n / 64) 1 s (by omega) hq hs
  have E := Lib.hid (And.intro E0 E1); clear E0 E1
  have HQ := Lib.hid hq; clear hq
  have hmk := mk2
  have hb1 : b < w.heap.size + 1 := by omega
  have hb2 : b < w.heap.size + 1 + 1 := by omega
  have hb3 : b < w.heap.size + 1 + 1 + 1 := by omega
  go_enter Try.func41, Try.ntmps41
  go_wp2_with fail
  refine wp_loop_rounds 3 ?_
  rw [rounds_succ]
  go_wp2_with (go_at_call 79; refine (part2_any b _ a0 a1 _ _ (by go_simp) (by go_simp) (by go_simp)).mono ?_; rintro e w' ⟨rfl, rfl⟩)
  rw [rounds_succ]
  go_wp2_with (go_at_call 79; refine (part2_any b _ a0 a1 _ _ (by go_simp) (by go_simp) (by go_simp)).mono ?_; rintro e w' ⟨rfl, rfl⟩)
  rw [rounds_succ]
  go_wp2_with fail
  rw [E.out.1, E.out.2]
  refine (two_any _ (limb 0 (shiftZ (val2 a0 a1) n)) (limb 1 (shiftZ (val2 a0 a1) n)) _ (by go_simp) (by go_simp) (by go_simp)).mono ?_
  rintro e w' ⟨rfl, hk⟩
  have hk1 : Kept w.heap.size w w' := Kept.step (((Kept.refl w).alloc _).alloc _ |>.alloc _) hk
  obtain ⟨hc, hf, hl, hm, hn⟩ := bcell hk
  go_wp2
  refine bodyPost_ret (v := bitsV (shiftZ (val2 a0 a1) n)) (by simp [results, Try.results41, go_sem, hc]) rfl ⟨rfl, ?_⟩
  refine Kept.below ?_; repeat (first | exact hk1 | refine Kept.alloc ?_ _ | refine Kept.drew ?_ | refine Kept.setCell ?_ (by simp) _)

set_option maxRecDepth 100000 in
set_option maxHeartbeats 1000000 in
theorem moved2_hi (b : Nat) (a0 a1 : Int) (_u0 : U64 a0) (_u1 : U64 a1) (n : Int) (hn : 128 < n) (_hn2 : n ≤ 9223372036854775807) (w : World) (hb : b < w.heap.size) (h0 : w.cell? ⟨b, 0, none⟩ = some (.int .u64 a0)) (h1 : w.cell? ⟨b, 1, none⟩ = some (.int .u64 a1)) :
    Calls Try.prog 41 #[.slice (some ⟨b, 0, none⟩) 2 2, .int .i64 n, .func (.func 43) #[] #[]] w fun e w' => e = .returned (.agg #[.int .u64 0, .int .u64 0]) ∧ Below w.heap.size w w' := by
  have hmk := mk2
  have hb1 : b < w.heap.size + 1 := by omega
  have hb2 : b < w.heap.size + 1 + 1 := by omega
  have hb3 : b < w.heap.size + 1 + 1 + 1 := by omega
  have hA : bits .and .i64 128 63 = 0 := by decide
  have hO : bits .or .u64 0 0 = 0 := by decide
  have p1 : part2 a0 a1 (-1) = 0 := rfl
  have p2 : part2 a0 a1 (-2) = 0 := rfl
  have p3 : part2 a0 a1 (-3) = 0 := rfl
  go_enter Try.func41, Try.ntmps41
  go_wp2_with fail
  refine wp_loop_rounds 3 ?_
  rw [rounds_succ]
  go_wp2_with (go_at_call 79; refine (part2_any b _ a0 a1 _ _ (by go_simp) (by go_simp) (by go_simp)).mono ?_; rintro e w' ⟨rfl, rfl⟩)
  rw [rounds_succ]
  go_wp2_with (go_at_call 79; refine (part2_any b _ a0 a1 _ _ (by go_simp) (by go_simp) (by go_simp)).mono ?_; rintro e w' ⟨rfl, rfl⟩)
  rw [rounds_succ]
  go_wp2_with fail
  refine (two_any _ (0) (0) _ (by go_simp) (by go_simp) (by go_simp)).mono ?_
  rintro e w' ⟨rfl, hk⟩
  have hk1 : Kept w.heap.size w w' := Kept.step (((Kept.refl w).alloc _).alloc _ |>.alloc _) hk
  obtain ⟨hc, hf, hl, hm, hn⟩ := bcell hk
  go_wp2
  refine bodyPost_ret (v := .agg #[.int .u64 0, .int .u64 0]) (by simp [results, Try.results41, go_sem, hc]) rfl ⟨rfl, ?_⟩
  refine Kept.below ?_; repeat (first | exact hk1 | refine Kept.alloc ?_ _ | refine Kept.drew ?_ | refine Kept.setCell ?_ (by simp) _)

set_option maxRecDepth 100000 in
set_option maxHeartbeats 1000000 in
theorem moved2_hi0 (b : Nat) (a0 a1 : Int) (_u0 : U64 a0) (_u1 : U64 a1) (w : World) (hb : b < w.heap.size) (h0 : w.cell? ⟨b, 0, none⟩ = some (.int .u64 a0)) (h1 : w.cell? ⟨b, 1, none⟩ = some (.int .u64 a1)) :
    Calls Try.prog 41 #[.slice (some ⟨b, 0, none⟩) 2 2, .int .i64 128, .func (.func 43) #[] #[]] w fun e w' => e = .returned (.agg #[.int .u64 0, .int .u64 0]) ∧ Below w.heap.size w w' := by
  have hmk := mk2
  have hb1 : b < w.heap.size + 1 := by omega
  have hb2 : b < w.heap.size + 1 + 1 := by omega
  have hb3 : b < w.heap.size + 1 + 1 + 1 := by omega
  have hA : bits .and .i64 128 63 = 0 := by decide
  have hO : bits .or .u64 0 0 = 0 := by decide
  have p1 : part2 a0 a1 (-1) = 0 := rfl
  have p2 : part2 a0 a1 (-2) = 0 := rfl
  have p3 : part2 a0 a1 (-3) = 0 := rfl
  go_enter Try.func41, Try.ntmps41
  go_wp2_with fail
  refine wp_loop_rounds 3 ?_
  rw [rounds_succ]
  go_wp2_with (go_at_call 79; refine (part2_any b _ a0 a1 _ _ (by go_simp) (by go_simp) (by go_simp)).mono ?_; rintro e w' ⟨rfl, rfl⟩)
  rw [rounds_succ]
  go_wp2_with (go_at_call 79; refine (part2_any b _ a0 a1 _ _ (by go_simp) (by go_simp) (by go_simp)).mono ?_; rintro e w' ⟨rfl, rfl⟩)
  rw [rounds_succ]
  go_wp2_with fail
  refine (two_any _ (0) (0) _ (by go_simp) (by go_simp) (by go_simp)).mono ?_
  rintro e w' ⟨rfl, hk⟩
  have hk1 : Kept w.heap.size w w' := Kept.step (((Kept.refl w).alloc _).alloc _ |>.alloc _) hk
  obtain ⟨hc, hf, hl, hm, hn⟩ := bcell hk
  go_wp2
  refine bodyPost_ret (v := .agg #[.int .u64 0, .int .u64 0]) (by simp [results, Try.results41, go_sem, hc]) rfl ⟨rfl, ?_⟩
  refine Kept.below ?_; repeat (first | exact hk1 | refine Kept.alloc ?_ _ | refine Kept.drew ?_ | refine Kept.setCell ?_ (by simp) _)

set_option maxRecDepth 100000 in
set_option maxHeartbeats 1000000 in
theorem moved2_lo (b : Nat) (a0 a1 : Int) (_u0 : U64 a0) (u1 : U64 a1) (n : Int) (hn : n < -128) (hn2 : -9223372036854775808 ≤ n) (w : World) (hb : b < w.heap.size) (h0 : w.cell? ⟨b, 0, none⟩ = some (.int .u64 a0)) (h1 : w.cell? ⟨b, 1, none⟩ = some (.int .u64 a1)) :
    Calls Try.prog 41 #[.slice (some ⟨b, 0, none⟩) 2 2, .int .i64 n, .func (.func 43) #[] #[]] w fun e w' => e = .returned (.agg #[.int .u64 0, .int .u64 0]) ∧ Below w.heap.size w w' := by
  have hmk := mk2
  have hb1 : b < w.heap.size + 1 := by omega
  have hb2 : b < w.heap.size + 1 + 1 := by omega
  have hb3 : b < w.heap.size + 1 + 1 + 1 := by omega
  have hA : bits .and .i64 (-128) 63 = 0 := by decide
  have hO : bits .or .u64 0 0 = 0 := by decide
  have p4 : part2 a0 a1 2 = 0 := rfl
  have p5 : part2 a0 a1 3 = 0 := rfl
  have p3 : part2 a0 a1 1 = a1 := rfl
  have hq3 : a1 / 2 / 9223372036854775808 = 0 := by have := u1.lo; have := u1.hi; omega
  go_enter Try.func41, Try.ntmps41
  go_wp2_with fail
  refine wp_loop_rounds 3 ?_
  rw [rounds_succ]
  go_wp2_with (go_at_call 79; refine (part2_any b _ a0 a1 _ _ (by go_simp) (by go_simp) (by go_simp)).mono ?_; rintro e w' ⟨rfl, rfl⟩)
  rw [rounds_succ]
  go_wp2_with (go_at_call 79; refine (part2_any b _ a0 a1 _ _ (by go_simp) (by go_simp) (by go_simp)).mono ?_; rintro e w' ⟨rfl, rfl⟩)
  rw [rounds_succ]
  go_wp2_with fail
  refine (two_any _ (0) (0) _ (by go_simp) (by go_simp) (by go_simp)).mono ?_
  rintro e w' ⟨rfl, hk⟩
  have hk1 : Kept w.heap.size w w' := Kept.step (((Kept.refl w).alloc _).alloc _ |>.alloc _) hk
  obtain ⟨hc, hf, hl, hm, hn⟩ := bcell hk
  go_wp2
  refine bodyPost_ret (v := .agg #[.int .u64 0, .int .u64 0]) (by simp [results, Try.results41, go_sem, hc]) rfl ⟨rfl, ?_⟩
  refine Kept.below ?_; repeat (first | exact hk1 | refine Kept.alloc ?_ _ | refine Kept.drew ?_ | refine Kept.setCell ?_ (by simp) _)

set_option maxRecDepth 100000 in
set_option maxHeartbeats 1000000 in
theorem moved2_lo0 (b : Nat) (a0 a1 : Int) (_u0 : U64 a0) (u1 : U64 a1) (w : World) (hb : b < w.heap.size) (h0 : w.cell? ⟨b, 0, none⟩ = some (.int .u64 a0)) (h1 : w.cell? ⟨b, 1, none⟩ = some (.int .u64 a1)) :
    Calls Try.prog 41 #[.slice (some ⟨b, 0, none⟩) 2 2, .int .i64 (-128), .func (.func 43) #[] #[]] w fun e w' => e = .returned (.agg #[.int .u64 0, .int .u64 0]) ∧ Below w.heap.size w w' := by
  have hmk := mk2
  have hb1 : b < w.heap.size + 1 := by omega
  have hb2 : b < w.heap.size + 1 + 1 := by omega
  have hb3 : b < w.heap.size + 1 + 1 + 1 := by omega
  have hA : bits .and .i64 (-128) 63 = 0 := by decide
  have hO : bits .or .u64 0 0 = 0 := by decide
  have p4 : part2 a0 a1 2 = 0 := rfl
  have p5 : part2 a0 a1 3 = 0 := rfl
  have p3 : part2 a0 a1 1 = a1 := rfl
  have hq3 : a1 / 2 / 9223372036854775808 = 0 := by have := u1.lo; have := u1.hi; omega
  go_enter Try.func41, Try.ntmps41
  go_wp2_with fail
  refine wp_loop_rounds 3 ?_
  rw [rounds_succ]
  go_wp2_with (go_at_call 79; refine (part2_any b _ a0 a1 _ _ (by go_simp) (by go_simp) (by go_simp)).mono ?_; rintro e w' ⟨rfl, rfl⟩)
  rw [rounds_succ]
  go_wp2_with (go_at_call 79; refine (part2_any b _ a0 a1 _ _ (by go_simp) (by go_simp) (by go_simp)).mono ?_; rintro e w' ⟨rfl, rfl⟩)
  rw [rounds_succ]
  go_wp2_with fail
  refine (two_any _ (0) (0) _ (by go_simp) (by go_simp) (by go_simp)).mono ?_
  rintro e w' ⟨rfl, hk⟩
  have hk1 : Kept w.heap.size w w' := Kept.step (((Kept.refl w).alloc _).alloc _ |>.alloc _) hk
  obtain ⟨hc, hf, hl, hm, hn⟩ := bcell hk
  go_wp2
  refine bodyPost_ret (v := .agg #[.int .u64 0, .int .u64 0]) (by simp [results, Try.results41, go_sem, hc]) rfl ⟨rfl, ?_⟩
  refine Kept.below ?_; repeat (first | exact hk1 | refine Kept.alloc ?_ _ | refine Kept.drew ?_ | refine Kept.setCell ?_ (by simp) _)

theorem moved2_any (b : Nat) {a1 a0 : Int} {A : Nat} (hA : IsBits a1 a0 A) (n : Int) (n0 : -9223372036854775808 ≤ n) (n1 : n ≤ 9223372036854775807) (w : World) (hb : b < w.heap.size) (h0 : w.cell? ⟨b, 0, none⟩ = some (.int .u64 a0)) (h1 : w.cell? ⟨b, 1, none⟩ = some (.int .u64 a1)) :
    Calls Try.prog 41 #[.slice (some ⟨b, 0, none⟩) 2 2, .int .i64 n, .func (.func 43) #[] #[]] w fun e w' => e = .returned (bitsV (shiftZ A n)) ∧ Below w.heap.size w w' := by
  have u0 := hA.u0
  have u1 := hA.u1
  have hv := hA.v
  have hlt := hA.w.lt
  by_cases hm : -128 < n ∧ n < 128
  · obtain ⟨s, hs⟩ : ∃ s : Nat, n % 64 = s := ⟨(n % 64).toNat, by omega⟩
    have := moved2_mid b a0 a1 u0 u1 n w hb hm.1 hm.2 s (by omega) (by rw [and63, hs]) hs h0 h1
    rw [hv] at this
    exact this
  · have hz : bitsV (shiftZ A n) = .agg #[.int .u64 0, .int .u64 0] := by
      unfold bitsV
      by_cases hn : 128 ≤ n
      · rw [limb_far 2 0 (by omega) (by omega), limb_far 2 1 (by omega) (by omega)]
      · rw [shiftZ_far 2 hlt (by omega)]; simp only [show ∀ i, limb i 0 = 0 from fun i => by unfold limb; simp]
    rw [hz]
    by_cases k1 : 128 < n
    · exact moved2_hi b a0 a1 u0 u1 n k1 n1 w hb h0 h1
    · by_cases k2 : n = 128
      · subst k2; exact moved2_hi0 b a0 a1 u0 u1 w hb h0 h1
      · by_cases k3 : n = -128
        · subst k3; exact moved2_lo0 b a0 a1 u0 u1 w hb h0 h1
        · exact moved2_lo b a0 a1 u0 u1 n (by omega) n0 w hb h0 h1

end Go.Proofs.Ytglagdmfplgfaaa
