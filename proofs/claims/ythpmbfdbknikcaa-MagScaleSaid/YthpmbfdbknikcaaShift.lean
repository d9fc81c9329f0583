/- The contracts of package shift: each answers what its Lean function says, and old memory is as it was. -/
import Derived.Test.YthpmbfdbknikcaaRows
import Derived.Test.YthpmbfdbknikcaaKept
import Derived.Test.YthpmbfdbknikcaaNum
import Derived.WalkSpells
import Derived.WalkLawsBesides
import Derived.LoopN
import Derived.Deep.RegionHeld3
set_option linter.unusedVariables false
set_option linter.unusedSimpArgs false
namespace Go.Proofs.Ythpmbfdbknikcaa
open Go.RowKit

set_option maxRecDepth 100000 in
set_option maxHeartbeats 400000 in
theorem part4_any (b Bl : Nat) (a0 a1 a2 a3 : Int) (z : Int) (w : World) (hl : w.cell? ⟨Bl, 0, none⟩ = some (.slice (some ⟨b, 0, none⟩) 4 4))
    (h0 : w.cell? ⟨b, 0, none⟩ = some (.int .u64 a0)) (h1 : w.cell? ⟨b, 1, none⟩ = some (.int .u64 a1)) (h2 : w.cell? ⟨b, 2, none⟩ = some (.int .u64 a2)) (h3 : w.cell? ⟨b, 3, none⟩ = some (.int .u64 a3)) :
    Calls Try.prog 88 #[.int .i64 z, .pointer (some ⟨Bl, 0, none⟩)] w fun e w' => e = .returned (.int .u64 (part4 a0 a1 a2 a3 z)) ∧ w = w' := by
  by_cases hz : 0 ≤ z ∧ z < 4
  · have hc : w.cell? ⟨b, z.toNat, none⟩ = some (.int .u64 (part4 a0 a1 a2 a3 z)) := by
      have : z = 0 ∨ z = 1 ∨ z = 2 ∨ z = 3 := by omega
      rcases this with rfl | rfl | rfl | rfl
      · rw [show (0 : Int).toNat = 0 from rfl, h0]; rfl
      · rw [show (1 : Int).toNat = 1 from rfl, h1]; rfl
      · rw [show (2 : Int).toNat = 2 from rfl, h2]; rfl
      · rw [show (3 : Int).toNat = 3 from rfl, h3]; rfl
    obtain ⟨hz0, hz1⟩ := hz
    go_enter Try.func88, Try.ntmps88
    go_wp2
    go_ret
    exact ⟨rfl, rfl⟩
  · have he : part4 a0 a1 a2 a3 z = 0 := by unfold part4; (repeat' split) <;> omega
    have HE := Lib.hid he; clear he
    by_cases hz0 : z < 0
    all_goals
      go_enter Try.func88, Try.ntmps88
      go_wp2
      go_ret
      exact ⟨ret_int HE.out.symm, rfl⟩
theorem mk4 (w : World) : (Instr.makeSlice 109 (.int .i64 4) (.int .i64 4)).run Try.prog w = .ok (.slice (some ⟨w.heap.size, 0, none⟩) 4 4) (w.alloc (.cells #[.int .u64 0, .int .u64 0, .int .u64 0, .int .u64 0] 22)) := by kernel_rfl
theorem mk2 (w : World) : (Instr.makeSlice 109 (.int .i64 2) (.int .i64 2)).run Try.prog w = .ok (.slice (some ⟨w.heap.size, 0, none⟩) 2 2) (w.alloc (.cells #[.int .u64 0, .int .u64 0] 22)) := by kernel_rfl

theorem at4 (a : Addr) (w : World) : (Instr.arrayAt 26 (.slice (some a) 4 4)).run Try.prog w = .ok (.pointer (some a)) w := by kernel_rfl

set_option maxRecDepth 100000 in
set_option maxHeartbeats 400000 in
theorem four_any (b : Nat) (a0 a1 a2 a3 : Int) (w : World) (hb : b < w.heap.size)
    (h0 : w.cell? ⟨b, 0, none⟩ = some (.int .u64 a0)) (h1 : w.cell? ⟨b, 1, none⟩ = some (.int .u64 a1)) (h2 : w.cell? ⟨b, 2, none⟩ = some (.int .u64 a2)) (h3 : w.cell? ⟨b, 3, none⟩ = some (.int .u64 a3)) :
    Calls Try.prog 85 #[.slice (some ⟨b, 0, none⟩) 4 4] w fun e w' => e = .returned (.agg #[.int .u64 a0, .int .u64 a1, .int .u64 a2, .int .u64 a3]) ∧ Below w.heap.size w w' := by
  have hat := at4
  go_enter Try.func85, Try.ntmps85
  go_wp2
  refine bodyPost_ret (v := .agg #[.int .u64 a0, .int .u64 a1, .int .u64 a2, .int .u64 a3]) (by simp [results, Try.results85, go_sem]) rfl ⟨rfl, ?_⟩
  refine Kept.below ?_; repeat (first | exact Kept.refl _ | refine Kept.alloc ?_ _ | refine Kept.drew ?_ | refine Kept.setCell ?_ (by simp; try omega) _)
set_option maxRecDepth 100000 in
set_option maxHeartbeats 1000000 in
theorem moved4_mid (b : Nat) (a0 a1 a2 a3 : Int) (u0 : U64 a0) (u1 : U64 a1) (u2 : U64 a2) (u3 : U64 a3) (n : Int) (w : World) (hb : b < w.heap.size) (hn1 : -256 < n) (hn2 : n < 256) (s : Nat) (hs : s < 64) (hA : bits .and .i64 n 63 = (s : Int)) (hq : n % 64 = s)
    (h0 : w.cell? ⟨b, 0, none⟩ = some (.int .u64 a0)) (h1 : w.cell? ⟨b, 1, none⟩ = some (.int .u64 a1)) (h2 : w.cell? ⟨b, 2, none⟩ = some (.int .u64 a2)) (h3 : w.cell? ⟨b, 3, none⟩ = some (.int .u64 a3)) :
    Calls Try.prog 84 #[.slice (some ⟨b, 0, none⟩) 4 4, .int .i64 n, .func (.func 85) #[] #[]] w fun e w' => e = .returned (wideV (shiftZ (val4 a0 a1 a2 a3) n)) ∧ Below w.heap.size w w' := by
  have E0 := moved4_at u0 u1 u2 u3 (n := n) (q := -(n / 64)) 0 s (by omega) hq hs
  have E1 := moved4_at u0 u1 u2 u3 (n := n) (q := 1 - n / 64) 1 s (by omega) hq hs
  have E2 := moved4_at u0 u1 u2 u3 (n := n) (q := 2 - n / 64) 2 s (by omega) hq hs
  have E3 := moved4_at u0 u1 u2 u3 (n := n) (q := 3 - n / 64) 3 s (by omega) hq hs
  have E := Lib.hid (And.intro E0 (And.intro E1 (And.intro E2 E3))); clear E0 E1 E2 E3
  have HQ := Lib.hid hq; clear hq
  have hmk := mk4
  have hb1 : b < w.heap.size + 1 := by omega
  have hb2 : b < w.heap.size + 1 + 1 := by omega
  have hb3 : b < w.heap.size + 1 + 1 + 1 := by omega
  go_enter Try.func84, Try.ntmps84
  go_wp2_with fail
  refine wp_loop_rounds 5 ?_
  rw [rounds_succ]
  go_wp2_with (go_at_call 88; refine (part4_any b _ a0 a1 a2 a3 _ _ (by go_simp) (by go_simp) (by go_simp) (by go_simp) (by go_simp)).mono ?_; rintro e w' ⟨rfl, rfl⟩)
  rw [rounds_succ]
  go_wp2_with (go_at_call 88; refine (part4_any b _ a0 a1 a2 a3 _ _ (by go_simp) (by go_simp) (by go_simp) (by go_simp) (by go_simp)).mono ?_; rintro e w' ⟨rfl, rfl⟩)
  rw [rounds_succ]
  go_wp2_with (go_at_call 88; refine (part4_any b _ a0 a1 a2 a3 _ _ (by go_simp) (by go_simp) (by go_simp) (by go_simp) (by go_simp)).mono ?_; rintro e w' ⟨rfl, rfl⟩)
  rw [rounds_succ]
  go_wp2_with (go_at_call 88; refine (part4_any b _ a0 a1 a2 a3 _ _ (by go_simp) (by go_simp) (by go_simp) (by go_simp) (by go_simp)).mono ?_; rintro e w' ⟨rfl, rfl⟩)
  rw [rounds_succ]
  go_wp2_with fail
  rw [E.out.1, E.out.2.1, E.out.2.2.1, E.out.2.2.2]
  refine (four_any _ (limb 0 (shiftZ (val4 a0 a1 a2 a3) n)) (limb 1 (shiftZ (val4 a0 a1 a2 a3) n)) (limb 2 (shiftZ (val4 a0 a1 a2 a3) n)) (limb 3 (shiftZ (val4 a0 a1 a2 a3) n)) _ (by go_simp) (by go_simp) (by go_simp) (by go_simp) (by go_simp)).mono ?_
  rintro e w' ⟨rfl, hk⟩
  have hk1 : Kept w.heap.size w w' := Kept.step (((Kept.refl w).alloc _).alloc _ |>.alloc _) hk
  obtain ⟨hc, hf, hl, hm, hn⟩ := bcell hk
  go_wp2
  refine bodyPost_ret (v := wideV (shiftZ (val4 a0 a1 a2 a3) n)) (by simp [results, Try.results84, go_sem, hc]) rfl ⟨rfl, ?_⟩
  refine Kept.below ?_; repeat (first | exact hk1 | refine Kept.alloc ?_ _ | refine Kept.drew ?_ | refine Kept.setCell ?_ (by simp) _)

set_option maxRecDepth 100000 in
set_option maxHeartbeats 1000000 in
theorem moved4_hi (b : Nat) (a0 a1 a2 a3 : Int) (_u0 : U64 a0) (_u1 : U64 a1) (_u2 : U64 a2) (_u3 : U64 a3) (n : Int) (hn : 256 < n) (_hn2 : n ≤ 9223372036854775807) (w : World) (hb : b < w.heap.size)
    (h0 : w.cell? ⟨b, 0, none⟩ = some (.int .u64 a0)) (h1 : w.cell? ⟨b, 1, none⟩ = some (.int .u64 a1)) (h2 : w.cell? ⟨b, 2, none⟩ = some (.int .u64 a2)) (h3 : w.cell? ⟨b, 3, none⟩ = some (.int .u64 a3)) :
    Calls Try.prog 84 #[.slice (some ⟨b, 0, none⟩) 4 4, .int .i64 n, .func (.func 85) #[] #[]] w fun e w' => e = .returned (.agg #[.int .u64 0, .int .u64 0, .int .u64 0, .int .u64 0]) ∧ Below w.heap.size w w' := by
  have hmk := mk4
  have hb1 : b < w.heap.size + 1 := by omega
  have hb2 : b < w.heap.size + 1 + 1 := by omega
  have hb3 : b < w.heap.size + 1 + 1 + 1 := by omega
  have hA : bits .and .i64 256 63 = 0 := by decide
  have hO : bits .or .u64 0 0 = 0 := by decide
  have p1 : part4 a0 a1 a2 a3 (-1) = 0 := rfl
  have p2 : part4 a0 a1 a2 a3 (-2) = 0 := rfl
  have p3 : part4 a0 a1 a2 a3 (-3) = 0 := rfl
  have p4 : part4 a0 a1 a2 a3 (-4) = 0 := rfl
  have p5 : part4 a0 a1 a2 a3 (-5) = 0 := rfl
  go_enter Try.func84, Try.ntmps84
  go_wp2_with fail
  refine wp_loop_rounds 5 ?_
  rw [rounds_succ]
  go_wp2_with (go_at_call 88; refine (part4_any b _ a0 a1 a2 a3 _ _ (by go_simp) (by go_simp) (by go_simp) (by go_simp) (by go_simp)).mono ?_; rintro e w' ⟨rfl, rfl⟩)
  rw [rounds_succ]
  go_wp2_with (go_at_call 88; refine (part4_any b _ a0 a1 a2 a3 _ _ (by go_simp) (by go_simp) (by go_simp) (by go_simp) (by go_simp)).mono ?_; rintro e w' ⟨rfl, rfl⟩)
  rw [rounds_succ]
  go_wp2_with (go_at_call 88; refine (part4_any b _ a0 a1 a2 a3 _ _ (by go_simp) (by go_simp) (by go_simp) (by go_simp) (by go_simp)).mono ?_; rintro e w' ⟨rfl, rfl⟩)
  rw [rounds_succ]
  go_wp2_with (go_at_call 88; refine (part4_any b _ a0 a1 a2 a3 _ _ (by go_simp) (by go_simp) (by go_simp) (by go_simp) (by go_simp)).mono ?_; rintro e w' ⟨rfl, rfl⟩)
  rw [rounds_succ]
  go_wp2_with fail
  refine (four_any _ 0 0 0 0 _ (by go_simp) (by go_simp) (by go_simp) (by go_simp) (by go_simp)).mono ?_
  rintro e w' ⟨rfl, hk⟩
  have hk1 : Kept w.heap.size w w' := Kept.step (((Kept.refl w).alloc _).alloc _ |>.alloc _) hk
  obtain ⟨hc, hf, hl, hm, hn⟩ := bcell hk
  go_wp2
  refine bodyPost_ret (v := .agg #[.int .u64 0, .int .u64 0, .int .u64 0, .int .u64 0]) (by simp [results, Try.results84, go_sem, hc]) rfl ⟨rfl, ?_⟩
  refine Kept.below ?_; repeat (first | exact hk1 | refine Kept.alloc ?_ _ | refine Kept.drew ?_ | refine Kept.setCell ?_ (by simp) _)

set_option maxRecDepth 100000 in
set_option maxHeartbeats 1000000 in
theorem moved4_hi0 (b : Nat) (a0 a1 a2 a3 : Int) (_u0 : U64 a0) (_u1 : U64 a1) (_u2 : U64 a2) (_u3 : U64 a3) (w : World) (hb : b < w.heap.size)
    (h0 : w.cell? ⟨b, 0, none⟩ = some (.int .u64 a0)) (h1 : w.cell? ⟨b, 1, none⟩ = some (.int .u64 a1)) (h2 : w.cell? ⟨b, 2, none⟩ = some (.int .u64 a2)) (h3 : w.cell? ⟨b, 3, none⟩ = some (.int .u64 a3)) :
    Calls Try.prog 84 #[.slice (some ⟨b, 0, none⟩) 4 4, .int .i64 256, .func (.func 85) #[] #[]] w fun e w' => e = .returned (.agg #[.int .u64 0, .int .u64 0, .int .u64 0, .int .u64 0]) ∧ Below w.heap.size w w' := by
  have hmk := mk4
  have hb1 : b < w.heap.size + 1 := by omega
  have hb2 : b < w.heap.size + 1 + 1 := by omega
  have hb3 : b < w.heap.size + 1 + 1 + 1 := by omega
  have hA : bits .and .i64 256 63 = 0 := by decide
  have hO : bits .or .u64 0 0 = 0 := by decide
  have p1 : part4 a0 a1 a2 a3 (-1) = 0 := rfl
  have p2 : part4 a0 a1 a2 a3 (-2) = 0 := rfl
  have p3 : part4 a0 a1 a2 a3 (-3) = 0 := rfl
  have p4 : part4 a0 a1 a2 a3 (-4) = 0 := rfl
  have p5 : part4 a0 a1 a2 a3 (-5) = 0 := rfl
  go_enter Try.func84, Try.ntmps84
  go_wp2_with fail
  refine wp_loop_rounds 5 ?_
  rw [rounds_succ]
  go_wp2_with (go_at_call 88; refine (part4_any b _ a0 a1 a2 a3 _ _ (by go_simp) (by go_simp) (by go_simp) (by go_simp) (by go_simp)).mono ?_; rintro e w' ⟨rfl, rfl⟩)
  rw [rounds_succ]
  go_wp2_with (go_at_call 88; refine (part4_any b _ a0 a1 a2 a3 _ _ (by go_simp) (by go_simp) (by go_simp) (by go_simp) (by go_simp)).mono ?_; rintro e w' ⟨rfl, rfl⟩)
  rw [rounds_succ]
  go_wp2_with (go_at_call 88; refine (part4_any b _ a0 a1 a2 a3 _ _ (by go_simp) (by go_simp) (by go_simp) (by go_simp) (by go_simp)).mono ?_; rintro e w' ⟨rfl, rfl⟩)
  rw [rounds_succ]
  go_wp2_with (go_at_call 88; refine (part4_any b _ a0 a1 a2 a3 _ _ (by go_simp) (by go_simp) (by go_simp) (by go_simp) (by go_simp)).mono ?_; rintro e w' ⟨rfl, rfl⟩)
  rw [rounds_succ]
  go_wp2_with fail
  refine (four_any _ 0 0 0 0 _ (by go_simp) (by go_simp) (by go_simp) (by go_simp) (by go_simp)).mono ?_
  rintro e w' ⟨rfl, hk⟩
  have hk1 : Kept w.heap.size w w' := Kept.step (((Kept.refl w).alloc _).alloc _ |>.alloc _) hk
  obtain ⟨hc, hf, hl, hm, hn⟩ := bcell hk
  go_wp2
  refine bodyPost_ret (v := .agg #[.int .u64 0, .int .u64 0, .int .u64 0, .int .u64 0]) (by simp [results, Try.results84, go_sem, hc]) rfl ⟨rfl, ?_⟩
  refine Kept.below ?_; repeat (first | exact hk1 | refine Kept.alloc ?_ _ | refine Kept.drew ?_ | refine Kept.setCell ?_ (by simp) _)

set_option maxRecDepth 100000 in
set_option maxHeartbeats 1000000 in
theorem moved4_lo (b : Nat) (a0 a1 a2 a3 : Int) (_u0 : U64 a0) (_u1 : U64 a1) (_u2 : U64 a2) (u3 : U64 a3) (n : Int) (hn : n < -256) (hn2 : -9223372036854775808 ≤ n) (w : World) (hb : b < w.heap.size)
    (h0 : w.cell? ⟨b, 0, none⟩ = some (.int .u64 a0)) (h1 : w.cell? ⟨b, 1, none⟩ = some (.int .u64 a1)) (h2 : w.cell? ⟨b, 2, none⟩ = some (.int .u64 a2)) (h3 : w.cell? ⟨b, 3, none⟩ = some (.int .u64 a3)) :
    Calls Try.prog 84 #[.slice (some ⟨b, 0, none⟩) 4 4, .int .i64 n, .func (.func 85) #[] #[]] w fun e w' => e = .returned (.agg #[.int .u64 0, .int .u64 0, .int .u64 0, .int .u64 0]) ∧ Below w.heap.size w w' := by
  have hmk := mk4
  have hb1 : b < w.heap.size + 1 := by omega
  have hb2 : b < w.heap.size + 1 + 1 := by omega
  have hb3 : b < w.heap.size + 1 + 1 + 1 := by omega
  have hA : bits .and .i64 (-256) 63 = 0 := by decide
  have hO : bits .or .u64 0 0 = 0 := by decide
  have p4 : part4 a0 a1 a2 a3 4 = 0 := rfl
  have p5 : part4 a0 a1 a2 a3 5 = 0 := rfl
  have p6 : part4 a0 a1 a2 a3 6 = 0 := rfl
  have p7 : part4 a0 a1 a2 a3 7 = 0 := rfl
  have p3 : part4 a0 a1 a2 a3 3 = a3 := rfl
  have hq3 : a3 / 2 / 9223372036854775808 = 0 := by have := u3.lo; have := u3.hi; omega
  go_enter Try.func84, Try.ntmps84
  go_wp2_with fail
  refine wp_loop_rounds 5 ?_
  rw [rounds_succ]
  go_wp2_with (go_at_call 88; refine (part4_any b _ a0 a1 a2 a3 _ _ (by go_simp) (by go_simp) (by go_simp) (by go_simp) (by go_simp)).mono ?_; rintro e w' ⟨rfl, rfl⟩)
  rw [rounds_succ]
  go_wp2_with (go_at_call 88; refine (part4_any b _ a0 a1 a2 a3 _ _ (by go_simp) (by go_simp) (by go_simp) (by go_simp) (by go_simp)).mono ?_; rintro e w' ⟨rfl, rfl⟩)
  rw [rounds_succ]
  go_wp2_with (go_at_call 88; refine (part4_any b _ a0 a1 a2 a3 _ _ (by go_simp) (by go_simp) (by go_simp) (by go_simp) (by go_simp)).mono ?_; rintro e w' ⟨rfl, rfl⟩)
  rw [rounds_succ]
  go_wp2_with (go_at_call 88; refine (part4_any b _ a0 a1 a2 a3 _ _ (by go_simp) (by go_simp) (by go_simp) (by go_simp) (by go_simp)).mono ?_; rintro e w' ⟨rfl, rfl⟩)
  rw [rounds_succ]
  go_wp2_with fail
  refine (four_any _ 0 0 0 0 _ (by go_simp) (by go_simp) (by go_simp) (by go_simp) (by go_simp)).mono ?_
  rintro e w' ⟨rfl, hk⟩
  have hk1 : Kept w.heap.size w w' := Kept.step (((Kept.refl w).alloc _).alloc _ |>.alloc _) hk
  obtain ⟨hc, hf, hl, hm, hn⟩ := bcell hk
  go_wp2
  refine bodyPost_ret (v := .agg #[.int .u64 0, .int .u64 0, .int .u64 0, .int .u64 0]) (by simp [results, Try.results84, go_sem, hc]) rfl ⟨rfl, ?_⟩
  refine Kept.below ?_; repeat (first | exact hk1 | refine Kept.alloc ?_ _ | refine Kept.drew ?_ | refine Kept.setCell ?_ (by simp) _)

set_option maxRecDepth 100000 in
set_option maxHeartbeats 1000000 in
theorem moved4_lo0 (b : Nat) (a0 a1 a2 a3 : Int) (_u0 : U64 a0) (_u1 : U64 a1) (_u2 : U64 a2) (u3 : U64 a3) (w : World) (hb : b < w.heap.size)
    (h0 : w.cell? ⟨b, 0, none⟩ = some (.int .u64 a0)) (h1 : w.cell? ⟨b, 1, none⟩ = some (.int .u64 a1)) (h2 : w.cell? ⟨b, 2, none⟩ = some (.int .u64 a2)) (h3 : w.cell? ⟨b, 3, none⟩ = some (.int .u64 a3)) :
    Calls Try.prog 84 #[.slice (some ⟨b, 0, none⟩) 4 4, .int .i64 (-256), .func (.func 85) #[] #[]] w fun e w' => e = .returned (.agg #[.int .u64 0, .int .u64 0, .int .u64 0, .int .u64 0]) ∧ Below w.heap.size w w' := by
  have hmk := mk4
  have hb1 : b < w.heap.size + 1 := by omega
  have hb2 : b < w.heap.size + 1 + 1 := by omega
  have hb3 : b < w.heap.size + 1 + 1 + 1 := by omega
  have hA : bits .and .i64 (-256) 63 = 0 := by decide
  have hO : bits .or .u64 0 0 = 0 := by decide
  have p4 : part4 a0 a1 a2 a3 4 = 0 := rfl
  have p5 : part4 a0 a1 a2 a3 5 = 0 := rfl
  have p6 : part4 a0 a1 a2 a3 6 = 0 := rfl
  have p7 : part4 a0 a1 a2 a3 7 = 0 := rfl
  have p3 : part4 a0 a1 a2 a3 3 = a3 := rfl
  have hq3 : a3 / 2 / 9223372036854775808 = 0 := by have := u3.lo; have := u3.hi; omega
  go_enter Try.func84, Try.ntmps84
  go_wp2_with fail
  refine wp_loop_rounds 5 ?_
  rw [rounds_succ]
  go_wp2_with (go_at_call 88; refine (part4_any b _ a0 a1 a2 a3 _ _ (by go_simp) (by go_simp) (by go_simp) (by go_simp) (by go_simp)).mono ?_; rintro e w' ⟨rfl, rfl⟩)
  rw [rounds_succ]
  go_wp2_with (go_at_call 88; refine (part4_any b _ a0 a1 a2 a3 _ _ (by go_simp) (by go_simp) (by go_simp) (by go_simp) (by go_simp)).mono ?_; rintro e w' ⟨rfl, rfl⟩)
  rw [rounds_succ]
  go_wp2_with (go_at_call 88; refine (part4_any b _ a0 a1 a2 a3 _ _ (by go_simp) (by go_simp) (by go_simp) (by go_simp) (by go_simp)).mono ?_; rintro e w' ⟨rfl, rfl⟩)
  rw [rounds_succ]
  go_wp2_with (go_at_call 88; refine (part4_any b _ a0 a1 a2 a3 _ _ (by go_simp) (by go_simp) (by go_simp) (by go_simp) (by go_simp)).mono ?_; rintro e w' ⟨rfl, rfl⟩)
  rw [rounds_succ]
  go_wp2_with fail
  refine (four_any _ 0 0 0 0 _ (by go_simp) (by go_simp) (by go_simp) (by go_simp) (by go_simp)).mono ?_
  rintro e w' ⟨rfl, hk⟩
  have hk1 : Kept w.heap.size w w' := Kept.step (((Kept.refl w).alloc _).alloc _ |>.alloc _) hk
  obtain ⟨hc, hf, hl, hm, hn⟩ := bcell hk
  go_wp2
  refine bodyPost_ret (v := .agg #[.int .u64 0, .int .u64 0, .int .u64 0, .int .u64 0]) (by simp [results, Try.results84, go_sem, hc]) rfl ⟨rfl, ?_⟩
  refine Kept.below ?_; repeat (first | exact hk1 | refine Kept.alloc ?_ _ | refine Kept.drew ?_ | refine Kept.setCell ?_ (by simp) _)

theorem moved4_any (b : Nat) {a0 a1 a2 a3 : Int} {A : Nat} (hA : IsWide a0 a1 a2 a3 A) (n : Int) (n0 : -9223372036854775808 ≤ n) (n1 : n ≤ 9223372036854775807) (w : World) (hb : b < w.heap.size)
    (h0 : w.cell? ⟨b, 0, none⟩ = some (.int .u64 a0)) (h1 : w.cell? ⟨b, 1, none⟩ = some (.int .u64 a1)) (h2 : w.cell? ⟨b, 2, none⟩ = some (.int .u64 a2)) (h3 : w.cell? ⟨b, 3, none⟩ = some (.int .u64 a3)) :
    Calls Try.prog 84 #[.slice (some ⟨b, 0, none⟩) 4 4, .int .i64 n, .func (.func 85) #[] #[]] w fun e w' => e = .returned (wideV (shiftZ A n)) ∧ Below w.heap.size w w' := by
  obtain ⟨u0, u1, u2, u3⟩ := hA.u
  have hv := hA.v
  have hlt := hA.w.lt
  by_cases hm : -256 < n ∧ n < 256
  · obtain ⟨s, hs⟩ : ∃ s : Nat, n % 64 = s := ⟨(n % 64).toNat, by omega⟩
    have := moved4_mid b a0 a1 a2 a3 u0 u1 u2 u3 n w hb hm.1 hm.2 s (by omega) (by rw [and63, hs]) hs h0 h1 h2 h3
    rw [hv] at this
    exact this
  · have hz : wideV (shiftZ A n) = .agg #[.int .u64 0, .int .u64 0, .int .u64 0, .int .u64 0] := by
      unfold wideV
      by_cases hn : 256 ≤ n
      · rw [limb_far 4 0 (by omega) (by omega), limb_far 4 1 (by omega) (by omega), limb_far 4 2 (by omega) (by omega), limb_far 4 3 (by omega) (by omega)]
      · rw [shiftZ_far 4 hlt (by omega)]; simp only [show ∀ i, limb i 0 = 0 from fun i => by unfold limb; simp]
    rw [hz]
    by_cases k1 : 256 < n
    · exact moved4_hi b a0 a1 a2 a3 u0 u1 u2 u3 n k1 n1 w hb h0 h1 h2 h3
    · by_cases k2 : n = 256
      · subst k2; exact moved4_hi0 b a0 a1 a2 a3 u0 u1 u2 u3 w hb h0 h1 h2 h3
      · by_cases k3 : n = -256
        · subst k3; exact moved4_lo0 b a0 a1 a2 a3 u0 u1 u2 u3 w hb h0 h1 h2 h3
        · exact moved4_lo b a0 a1 a2 a3 u0 u1 u2 u3 n (by omega) n0 w hb h0 h1 h2 h3

end Go.Proofs.Ythpmbfdbknikcaa
