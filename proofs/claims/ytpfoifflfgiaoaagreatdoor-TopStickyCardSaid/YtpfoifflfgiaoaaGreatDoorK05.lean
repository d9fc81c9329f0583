/- Packages shift and mode: their contracts. -/
import Derived.Test.YtpfoifflfgiaoaaGreatDoorRows
import Derived.Test.YtpfoifflfgiaoaaGreatDoorK01
import Derived.WalkSpells
import Derived.WalkLawsBesides
import Derived.LoopN
import Derived.Deep.RegionHeld3
import Derived.Test.YtpfoifflfgiaoaaGreatDoorK02
import Derived.Maps.Own
import Derived.WalkKit
set_option linter.unusedVariables false
set_option linter.unusedSimpArgs false
namespace Go.Proofs.YtpfoifflfgiaoaaGreatDoor
open Go.RowKit

set_option maxRecDepth 100000 in
set_option maxHeartbeats 400000 in
theorem part4_any (b Bl : Nat) (a0 a1 a2 a3 : Int) (z : Int) (w : World) (hl : w.cell? ⟨Bl, 0, none⟩ = some (.slice (some ⟨b, 0, none⟩) 4 4))
    (h0 : w.cell? ⟨b, 0, none⟩ = some (.int .u64 a0)) (h1 : w.cell? ⟨b, 1, none⟩ = some (.int .u64 a1)) (h2 : w.cell? ⟨b, 2, none⟩ = some (.int .u64 a2)) (h3 : w.cell? ⟨b, 3, none⟩ = some (.int .u64 a3)) :
    Calls Tryz.prog 236 #[.int .i64 z, .pointer (some ⟨Bl, 0, none⟩)] w fun e w' => e = .returned (.int .u64 (part4 a0 a1 a2 a3 z)) ∧ w = w' := by
  by_cases hz : 0 ≤ z ∧ z < 4
  · have hc : w.cell? ⟨b, z.toNat, none⟩ = some (.int .u64 (part4 a0 a1 a2 a3 z)) := by
      have : z = 0 ∨ z = 1 ∨ z = 2 ∨ z = 3 := by omega
      rcases this with rfl | rfl | rfl | rfl
      · rw [show (0 : Int).toNat = 0 from rfl, h0]; rfl
      · rw [show (1 : Int).toNat = 1 from rfl, h1]; rfl
      · rw [show (2 : Int).toNat = 2 from rfl, h2]; rfl
      · rw [show (3 : Int).toNat = 3 from rfl, h3]; rfl
    obtain ⟨hz0, hz1⟩ := hz
    go_enter Tryz.func236, Tryz.ntmps236
    go_wp2
    go_ret
    exact ⟨rfl, rfl⟩
  · have he : part4 a0 a1 a2 a3 z = 0 := by unfold part4; (repeat' split) <;> omega
    have HE := Lib.hid he; clear he
    by_cases hz0 : z < 0
    all_goals
      go_enter Tryz.func236, Tryz.ntmps236
      go_wp2
      go_ret
      exact ⟨ret_int HE.out.symm, rfl⟩
set_option maxRecDepth 100000 in
set_option maxHeartbeats 400000 in
theorem part2_any (b Bl : Nat) (a0 a1 : Int) (z : Int) (w : World) (hl : w.cell? ⟨Bl, 0, none⟩ = some (.slice (some ⟨b, 0, none⟩) 2 2))
    (h0 : w.cell? ⟨b, 0, none⟩ = some (.int .u64 a0)) (h1 : w.cell? ⟨b, 1, none⟩ = some (.int .u64 a1)) :
    Calls Tryz.prog 260 #[.int .i64 z, .pointer (some ⟨Bl, 0, none⟩)] w fun e w' => e = .returned (.int .u64 (part2 a0 a1 z)) ∧ w = w' := by
  by_cases hz : 0 ≤ z ∧ z < 2
  · have hc : w.cell? ⟨b, z.toNat, none⟩ = some (.int .u64 (part2 a0 a1 z)) := by
      have : z = 0 ∨ z = 1 := by omega
      rcases this with rfl | rfl
      · rw [show (0 : Int).toNat = 0 from rfl, h0]; rfl
      · rw [show (1 : Int).toNat = 1 from rfl, h1]; rfl
    obtain ⟨hz0, hz1⟩ := hz
    go_enter Tryz.func260, Tryz.ntmps260
    go_wp2
    go_ret
    exact ⟨rfl, rfl⟩
  · have he : part2 a0 a1 z = 0 := by unfold part2; (repeat' split) <;> omega
    have HE := Lib.hid he; clear he
    by_cases hz0 : z < 0
    all_goals
      go_enter Tryz.func260, Tryz.ntmps260
      go_wp2
      go_ret
      exact ⟨ret_int HE.out.symm, rfl⟩
theorem mk4 (w : World) : (Instr.makeSlice 259 (.int .i64 4) (.int .i64 4)).run Tryz.prog w = .ok (.slice (some ⟨w.heap.size, 0, none⟩) 4 4) (w.alloc (.cells #[.int .u64 0, .int .u64 0, .int .u64 0, .int .u64 0] 27)) := by kernel_rfl
theorem mk2 (w : World) : (Instr.makeSlice 259 (.int .i64 2) (.int .i64 2)).run Tryz.prog w = .ok (.slice (some ⟨w.heap.size, 0, none⟩) 2 2) (w.alloc (.cells #[.int .u64 0, .int .u64 0] 27)) := by kernel_rfl

theorem at4 (a : Addr) (w : World) : (Instr.arrayAt 156 (.slice (some a) 4 4)).run Tryz.prog w = .ok (.pointer (some a)) w := by kernel_rfl

set_option maxRecDepth 100000 in
set_option maxHeartbeats 400000 in
theorem four_any (b : Nat) (a0 a1 a2 a3 : Int) (w : World) (hb : b < w.heap.size)
    (h0 : w.cell? ⟨b, 0, none⟩ = some (.int .u64 a0)) (h1 : w.cell? ⟨b, 1, none⟩ = some (.int .u64 a1)) (h2 : w.cell? ⟨b, 2, none⟩ = some (.int .u64 a2)) (h3 : w.cell? ⟨b, 3, none⟩ = some (.int .u64 a3)) :
    Calls Tryz.prog 169 #[.slice (some ⟨b, 0, none⟩) 4 4] w fun e w' => e = .returned (.agg #[.int .u64 a0, .int .u64 a1, .int .u64 a2, .int .u64 a3]) ∧ Below w.heap.size w w' := by
  have hat := at4
  go_enter Tryz.func169, Tryz.ntmps169
  go_wp2
  refine bodyPost_ret (v := .agg #[.int .u64 a0, .int .u64 a1, .int .u64 a2, .int .u64 a3]) (by simp [results, Tryz.results169, go_sem]) rfl ⟨rfl, ?_⟩
  refine Kept.below ?_; repeat (first | exact Kept.refl _ | refine Kept.alloc ?_ _ | refine Kept.drew ?_ | refine Kept.setCell ?_ (by simp; try omega) _)
set_option maxRecDepth 100000 in
set_option maxHeartbeats 1000000 in
theorem moved4_mid (b : Nat) (a0 a1 a2 a3 : Int) (u0 : U64 a0) (u1 : U64 a1) (u2 : U64 a2) (u3 : U64 a3) (n : Int) (w : World) (hb : b < w.heap.size) (hn1 : -256 < n) (hn2 : n < 256) (s : Nat) (hs : s < 64) (hA : bits .and .i64 n 63 = (s : Int)) (hq : n % 64 = s)
    (h0 : w.cell? ⟨b, 0, none⟩ = some (.int .u64 a0)) (h1 : w.cell? ⟨b, 1, none⟩ = some (.int .u64 a1)) (h2 : w.cell? ⟨b, 2, none⟩ = some (.int .u64 a2)) (h3 : w.cell? ⟨b, 3, none⟩ = some (.int .u64 a3)) :
    Calls Tryz.prog 168 #[.slice (some ⟨b, 0, none⟩) 4 4, .int .i64 n, .func (.func 169) #[] #[]] w fun e w' => e = .returned (wideV (shiftZ (val4 a0 a1 a2 a3) n)) ∧ Below w.heap.size w w' := by
  have E0 := moved4_at u0 u1 u2 u3 (n := n) (q := -(n / 64)) 0 s (by omega) hq hs
  have E1 := moved4_at u0 u1 u2 u3 (n := n) (q := 1 - n / 64) 1 s (by omega) hq hs
  have E2 := moved4_at u0 u1 u2 u3 (n := n) (q := 2 - n / 64) 2 s (by omega) hq hs
  have E3 := moved4_at u0 u1 u2 u3 (n := n) (q := 3 - n / 64) 3 s (by omega) hq hs
  have E := Lib.hid (And.intro E0 (And.intro E1 (And.intro E2 E3))); clear E0 E1 E2 E3
  have HQ := Lib.hid hq; clear hq
  have hmk := mk4
  have hb1 : b < w.heap.size + 1 := by omega
  have hb2 : b < w.heap.size + 1 + 1 := by omega
  have hb3 : b < w.heap.size + 1 + 1 + 1 := by omega
  go_enter Tryz.func168, Tryz.ntmps168
  go_wp2_with fail
  refine wp_loop_rounds 5 ?_
  rw [rounds_succ]
  go_wp2_with (go_at_call 236; refine (part4_any b _ a0 a1 a2 a3 _ _ (by go_simp) (by go_simp) (by go_simp) (by go_simp) (by go_simp)).mono ?_; rintro e w' ⟨rfl, rfl⟩)
  rw [rounds_succ]
  go_wp2_with (go_at_call 236; refine (part4_any b _ a0 a1 a2 a3 _ _ (by go_simp) (by go_simp) (by go_simp) (by go_simp) (by go_simp)).mono ?_; rintro e w' ⟨rfl, rfl⟩)
  rw [rounds_succ]
  go_wp2_with (go_at_call 236; refine (part4_any b _ a0 a1 a2 a3 _ _ (by go_simp) (by go_simp) (by go_simp) (by go_simp) (by go_simp)).mono ?_; rintro e w' ⟨rfl, rfl⟩)
  rw [rounds_succ]
  go_wp2_with (go_at_call 236; refine (part4_any b _ a0 a1 a2 a3 _ _ (by go_simp) (by go_simp) (by go_simp) (by go_simp) (by go_simp)).mono ?_; rintro e w' ⟨rfl, rfl⟩)
  rw [rounds_succ]
  go_wp2_with fail
  rw [E.out.1, E.out.2.1, E.out.2.2.1, E.out.2.2.2]
  refine (four_any _ (limb 0 (shiftZ (val4 a0 a1 a2 a3) n)) (limb 1 (shiftZ (val4 a0 a1 a2 a3) n)) (limb 2 (shiftZ (val4 a0 a1 a2 a3) n)) (limb 3 (shiftZ (val4 a0 a1 a2 a3) n)) _ (by go_simp) (by go_simp) (by go_simp) (by go_simp) (by go_simp)).mono ?_
  rintro e w' ⟨rfl, hk⟩
  have hk1 : Kept w.heap.size w w' := Kept.step (((Kept.refl w).alloc _).alloc _ |>.alloc _) hk
  obtain ⟨hc, hf, hl, hm, hn⟩ := bcell hk
  go_wp2
  refine bodyPost_ret (v := wideV (shiftZ (val4 a0 a1 a2 a3) n)) (by simp [results, Tryz.results168, go_sem, hc]) rfl ⟨rfl, ?_⟩
  refine Kept.below ?_; repeat (first | exact hk1 | refine Kept.alloc ?_ _ | refine Kept.drew ?_ | refine Kept.setCell ?_ (by simp) _)

set_option maxRecDepth 100000 in
set_option maxHeartbeats 1000000 in
theorem moved4_hi (b : Nat) (a0 a1 a2 a3 : Int) (_u0 : U64 a0) (_u1 : U64 a1) (_u2 : U64 a2) (_u3 : U64 a3) (n : Int) (hn : 256 < n) (_hn2 : n ≤ 9223372036854775807) (w : World) (hb : b < w.heap.size)
    (h0 : w.cell? ⟨b, 0, none⟩ = some (.int .u64 a0)) (h1 : w.cell? ⟨b, 1, none⟩ = some (.int .u64 a1)) (h2 : w.cell? ⟨b, 2, none⟩ = some (.int .u64 a2)) (h3 : w.cell? ⟨b, 3, none⟩ = some (.int .u64 a3)) :
    Calls Tryz.prog 168 #[.slice (some ⟨b, 0, none⟩) 4 4, .int .i64 n, .func (.func 169) #[] #[]] w fun e w' => e = .returned (.agg #[.int .u64 0, .int .u64 0, .int .u64 0, .int .u64 0]) ∧ Below w.heap.size w w' := by
  have hmk := mk4
  have hb1 : b < w.heap.size + 1 := by omega
  have hb2 : b < w.heap.size + 1 + 1 := by omega
  have hb3 : b < w.heap.size + 1 + 1 + 1 := by omega
  have hA : bits .and .i64 256 63 = 0 := by decide
  have hO : bits .or .u64 0 0 = 0 := by decide
  have p1 : part4 a0 a1 a2 a3 (-1) = 0 := rfl
  have p2 : part4 a0 a1 a2 a3 (-2) = 0 := rfl
  have p3 : part4 a0 a1 a2 a3 (-3) = 0 := rfl
  have p4 : part4 a0 a1 a2 a3 (-4) = 0 := rfl
  have p5 : part4 a0 a1 a2 a3 (-5) = 0 := rfl
  go_enter Tryz.func168, Tryz.ntmps168
  go_wp2_with fail
  refine wp_loop_rounds 5 ?_
  rw [rounds_succ]
  go_wp2_with (go_at_call 236; refine (part4_any b _ a0 a1 a2 a3 _ _ (by go_simp) (by go_simp) (by go_simp) (by go_simp) (by go_simp)).mono ?_; rintro e w' ⟨rfl, rfl⟩)
  rw [rounds_succ]
  go_wp2_with (go_at_call 236; refine (part4_any b _ a0 a1 a2 a3 _ _ (by go_simp) (by go_simp) (by go_simp) (by go_simp) (by go_simp)).mono ?_; rintro e w' ⟨rfl, rfl⟩)
  rw [rounds_succ]
  go_wp2_with (go_at_call 236; refine (part4_any b _ a0 a1 a2 a3 _ _ (by go_simp) (by go_simp) (by go_simp) (by go_simp) (by go_simp)).mono ?_; rintro e w' ⟨rfl, rfl⟩)
  rw [rounds_succ]
  go_wp2_with (go_at_call 236; refine (part4_any b _ a0 a1 a2 a3 _ _ (by go_simp) (by go_simp) (by go_simp) (by go_simp) (by go_simp)).mono ?_; rintro e w' ⟨rfl, rfl⟩)
  rw [rounds_succ]
  go_wp2_with fail
  refine (four_any _ 0 0 0 0 _ (by go_simp) (by go_simp) (by go_simp) (by go_simp) (by go_simp)).mono ?_
  rintro e w' ⟨rfl, hk⟩
  have hk1 : Kept w.heap.size w w' := Kept.step (((Kept.refl w).alloc _).alloc _ |>.alloc _) hk
  obtain ⟨hc, hf, hl, hm, hn⟩ := bcell hk
  go_wp2
  refine bodyPost_ret (v := .agg #[.int .u64 0, .int .u64 0, .int .u64 0, .int .u64 0]) (by simp [results, Tryz.results168, go_sem, hc]) rfl ⟨rfl, ?_⟩
  refine Kept.below ?_; repeat (first | exact hk1 | refine Kept.alloc ?_ _ | refine Kept.drew ?_ | refine Kept.setCell ?_ (by simp) _)

set_option maxRecDepth 100000 in
set_option maxHeartbeats 1000000 in
theorem moved4_hi0 (b : Nat) (a0 a1 a2 a3 : Int) (_u0 : U64 a0) (_u1 : U64 a1) (_u2 : U64 a2) (_u3 : U64 a3) (w : World) (hb : b < w.heap.size)
    (h0 : w.cell? ⟨b, 0, none⟩ = some (.int .u64 a0)) (h1 : w.cell? ⟨b, 1, none⟩ = some (.int .u64 a1)) (h2 : w.cell? ⟨b, 2, none⟩ = some (.int .u64 a2)) (h3 : w.cell? ⟨b, 3, none⟩ = some (.int .u64 a3)) :
    Calls Tryz.prog 168 #[.slice (some ⟨b, 0, none⟩) 4 4, .int .i64 256, .func (.func 169) #[] #[]] w fun e w' => e = .returned (.agg #[.int .u64 0, .int .u64 0, .int .u64 0, .int .u64 0]) ∧ Below w.heap.size w w' := by
  have hmk := mk4
  have hb1 : b < w.heap.size + 1 := by omega
  have hb2 : b < w.heap.size + 1 + 1 := by omega
  have hb3 : b < w.heap.size + 1 + 1 + 1 := by omega
  have hA : bits .and .i64 256 63 = 0 := by decide
  have hO : bits .or .u64 0 0 = 0 := by decide
  have p1 : part4 a0 a1 a2 a3 (-1) = 0 := rfl
  have p2 : part4 a0 a1 a2 a3 (-2) = 0 := rfl
  have p3 : part4 a0 a1 a2 a3 (-3) = 0 := rfl
  have p4 : part4 a0 a1 a2 a3 (-4) = 0 := rfl
  have p5 : part4 a0 a1 a2 a3 (-5) = 0 := rfl
  go_enter Tryz.func168, Tryz.ntmps168
  go_wp2_with fail
  refine wp_loop_rounds 5 ?_
  rw [rounds_succ]
  go_wp2_with (go_at_call 236; refine (part4_any b _ a0 a1 a2 a3 _ _ (by go_simp) (by go_simp) (by go_simp) (by go_simp) (by go_simp)).mono ?_; rintro e w' ⟨rfl, rfl⟩)
  rw [rounds_succ]
  go_wp2_with (go_at_call 236; refine (part4_any b _ a0 a1 a2 a3 _ _ (by go_simp) (by go_simp) (by go_simp) (by go_simp) (by go_simp)).mono ?_; rintro e w' ⟨rfl, rfl⟩)
  rw [rounds_succ]
  go_wp2_with (go_at_call 236; refine (part4_any b _ a0 a1 a2 a3 _ _ (by go_simp) (by go_simp) (by go_simp) (by go_simp) (by go_simp)).mono ?_; rintro e w' ⟨rfl, rfl⟩)
  rw [rounds_succ]
  go_wp2_with (go_at_call 236; refine (part4_any b _ a0 a1 a2 a3 _ _ (by go_simp) (by go_simp) (by go_simp) (by go_simp) (by go_simp)).mono ?_; rintro e w' ⟨rfl, rfl⟩)
  rw [rounds_succ]
  go_wp2_with fail
  refine (four_any _ 0 0 0 0 _ (by go_simp) (by go_simp) (by go_simp) (by go_simp) (by go_simp)).mono ?_
  rintro e w' ⟨rfl, hk⟩
  have hk1 : Kept w.heap.size w w' := Kept.step (((Kept.refl w).alloc _).alloc _ |>.alloc _) hk
  obtain ⟨hc, hf, hl, hm, hn⟩ := bcell hk
  go_wp2
  refine bodyPost_ret (v := .agg #[.int .u64 0, .int .u64 0, .int .u64 0, .int .u64 0]) (by simp [results, Tryz.results168, go_sem, hc]) rfl ⟨rfl, ?_⟩
  refine Kept.below ?_; repeat (first | exact hk1 | refine Kept.alloc ?_ _ | refine Kept.drew ?_ | refine Kept.setCell ?_ (by simp) _)

set_option maxRecDepth 100000 in
set_option maxHeartbeats 1000000 in
theorem moved4_lo (b : Nat) (a0 a1 a2 a3 : Int) (_u0 : U64 a0) (_u1 : U64 a1) (_u2 : U64 a2) (u3 : U64 a3) (n : Int) (hn : n < -256) (hn2 : -9223372036854775808 ≤ n) (w : World) (hb : b < w.heap.size)
    (h0 : w.cell? ⟨b, 0, none⟩ = some (.int .u64 a0)) (h1 : w.cell? ⟨b, 1, none⟩ = some (.int .u64 a1)) (h2 : w.cell? ⟨b, 2, none⟩ = some (.int .u64 a2)) (h3 : w.cell? ⟨b, 3, none⟩ = some (.int .u64 a3)) :
    Calls Tryz.prog 168 #[.slice (some ⟨b, 0, none⟩) 4 4, .int .i64 n, .func (.func 169) #[] #[]] w fun e w' => e = .returned (.agg #[.int .u64 0, .int .u64 0, .int .u64 0, .int .u64 0]) ∧ Below w.heap.size w w' := by
  have hmk := mk4
  have hb1 : b < w.heap.size + 1 := by omega
  have hb2 : b < w.heap.size + 1 + 1 := by omega
  have hb3 : b < w.heap.size + 1 + 1 + 1 := by omega
  have hA : bits .and .i64 (-256) 63 = 0 := by decide
  have hO : bits .or .u64 0 0 = 0 := by decide
  have p4 : part4 a0 a1 a2 a3 4 = 0 := rfl
  have p5 : part4 a0 a1 a2 a3 5 = 0 := rfl
  have p6 : part4 a0 a1 a2 a3 6 = 0 := rfl
  have p7 : part4 a0 a1 a2 a3 7 = 0 := rfl
  have p3 : part4 a0 a1 a2 a3 3 = a3 := rfl
  have hq3 : a3 / 2 / 9223372036854775808 = 0 := by have := u3.lo; have := u3.hi; omega
  go_enter Tryz.func168, Tryz.ntmps168
  go_wp2_with fail
  refine wp_loop_rounds 5 ?_
  rw [rounds_succ]
  go_wp2_with (go_at_call 236; refine (part4_any b _ a0 a1 a2 a3 _ _ (by go_simp) (by go_simp) (by go_simp) (by go_simp) (by go_simp)).mono ?_; rintro e w' ⟨rfl, rfl⟩)
  rw [rounds_succ]
  go_wp2_with (go_at_call 236; refine (part4_any b _ a0 a1 a2 a3 _ _ (by go_simp) (by go_simp) (by go_simp) (by go_simp) (by go_simp)).mono ?_; rintro e w' ⟨rfl, rfl⟩)
  rw [rounds_succ]
  go_wp2_with (go_at_call 236; refine (part4_any b _ a0 a1 a2 a3 _ _ (by go_simp) (by go_simp) (by go_simp) (by go_simp) (by go_simp)).mono ?_; rintro e w' ⟨rfl, rfl⟩)
  rw [rounds_succ]
  go_wp2_with (go_at_call 236; refine (part4_any b _ a0 a1 a2 a3 _ _ (by go_simp) (by go_simp) (by go_simp) (by go_simp) (by go_simp)).mono ?_; rintro e w' ⟨rfl, rfl⟩)
  rw [rounds_succ]
  go_wp2_with fail
  refine (four_any _ 0 0 0 0 _ (by go_simp) (by go_simp) (by go_simp) (by go_simp) (by go_simp)).mono ?_
  rintro e w' ⟨rfl, hk⟩
  have hk1 : Kept w.heap.size w w' := Kept.step (((Kept.refl w).alloc _).alloc _ |>.alloc _) hk
  obtain ⟨hc, hf, hl, hm, hn⟩ := bcell hk
  go_wp2
  refine bodyPost_ret (v := .agg #[.int .u64 0, .int .u64 0, .int .u64 0, .int .u64 0]) (by simp [results, Tryz.results168, go_sem, hc]) rfl ⟨rfl, ?_⟩
  refine Kept.below ?_; repeat (first | exact hk1 | refine Kept.alloc ?_ _ | refine Kept.drew ?_ | refine Kept.setCell ?_ (by simp) _)

set_option maxRecDepth 100000 in
set_option maxHeartbeats 1000000 in
theorem moved4_lo0 (b : Nat) (a0 a1 a2 a3 : Int) (_u0 : U64 a0) (_u1 : U64 a1) (_u2 : U64 a2) (u3 : U64 a3) (w : World) (hb : b < w.heap.size)
    (h0 : w.cell? ⟨b, 0, none⟩ = some (.int .u64 a0)) (h1 : w.cell? ⟨b, 1, none⟩ = some (.int .u64 a1)) (h2 : w.cell? ⟨b, 2, none⟩ = some (.int .u64 a2)) (h3 : w.cell? ⟨b, 3, none⟩ = some (.int .u64 a3)) :
    Calls Tryz.prog 168 #[.slice (some ⟨b, 0, none⟩) 4 4, .int .i64 (-256), .func (.func 169) #[] #[]] w fun e w' => e = .returned (.agg #[.int .u64 0, .int .u64 0, .int .u64 0, .int .u64 0]) ∧ Below w.heap.size w w' := by
  have hmk := mk4
  have hb1 : b < w.heap.size + 1 := by omega
  have hb2 : b < w.heap.size + 1 + 1 := by omega
  have hb3 : b < w.heap.size + 1 + 1 + 1 := by omega
  have hA : bits .and .i64 (-256) 63 = 0 := by decide
  have hO : bits .or .u64 0 0 = 0 := by decide
  have p4 : part4 a0 a1 a2 a3 4 = 0 := rfl
  have p5 : part4 a0 a1 a2 a3 5 = 0 := rfl
  have p6 : part4 a0 a1 a2 a3 6 = 0 := rfl
  have p7 : part4 a0 a1 a2 a3 7 = 0 := rfl
  have p3 : part4 a0 a1 a2 a3 3 = a3 := rfl
  have hq3 : a3 / 2 / 9223372036854775808 = 0 := by have := u3.lo; have := u3.hi; omega
  go_enter Tryz.func168, Tryz.ntmps168
  go_wp2_with fail
  refine wp_loop_rounds 5 ?_
  rw [rounds_succ]
  go_wp2_with (go_at_call 236; refine (part4_any b _ a0 a1 a2 a3 _ _ (by go_simp) (by go_simp) (by go_simp) (by go_simp) (by go_simp)).mono ?_; rintro e w' ⟨rfl, rfl⟩)
  rw [rounds_succ]
  go_wp2_with (go_at_call 236; refine (part4_any b _ a0 a1 a2 a3 _ _ (by go_simp) (by go_simp) (by go_simp) (by go_simp) (by go_simp)).mono ?_; rintro e w' ⟨rfl, rfl⟩)
  rw [rounds_succ]
  go_wp2_with (go_at_call 236; refine (part4_any b _ a0 a1 a2 a3 _ _ (by go_simp) (by go_simp) (by go_simp) (by go_simp) (by go_simp)).mono ?_; rintro e w' ⟨rfl, rfl⟩)
  rw [rounds_succ]
  go_wp2_with (go_at_call 236; refine (part4_any b _ a0 a1 a2 a3 _ _ (by go_simp) (by go_simp) (by go_simp) (by go_simp) (by go_simp)).mono ?_; rintro e w' ⟨rfl, rfl⟩)
  rw [rounds_succ]
  go_wp2_with fail
  refine (four_any _ 0 0 0 0 _ (by go_simp) (by go_simp) (by go_simp) (by go_simp) (by go_simp)).mono ?_
  rintro e w' ⟨rfl, hk⟩
  have hk1 : Kept w.heap.size w w' := Kept.step (((Kept.refl w).alloc _).alloc _ |>.alloc _) hk
  obtain ⟨hc, hf, hl, hm, hn⟩ := bcell hk
  go_wp2
  refine bodyPost_ret (v := .agg #[.int .u64 0, .int .u64 0, .int .u64 0, .int .u64 0]) (by simp [results, Tryz.results168, go_sem, hc]) rfl ⟨rfl, ?_⟩
  refine Kept.below ?_; repeat (first | exact hk1 | refine Kept.alloc ?_ _ | refine Kept.drew ?_ | refine Kept.setCell ?_ (by simp) _)

theorem moved4_any (b : Nat) {a0 a1 a2 a3 : Int} {A : Nat} (hA : IsWide a0 a1 a2 a3 A) (n : Int) (n0 : -9223372036854775808 ≤ n) (n1 : n ≤ 9223372036854775807) (w : World) (hb : b < w.heap.size)
    (h0 : w.cell? ⟨b, 0, none⟩ = some (.int .u64 a0)) (h1 : w.cell? ⟨b, 1, none⟩ = some (.int .u64 a1)) (h2 : w.cell? ⟨b, 2, none⟩ = some (.int .u64 a2)) (h3 : w.cell? ⟨b, 3, none⟩ = some (.int .u64 a3)) :
    Calls Tryz.prog 168 #[.slice (some ⟨b, 0, none⟩) 4 4, .int .i64 n, .func (.func 169) #[] #[]] w fun e w' => e = .returned (wideV (shiftZ A n)) ∧ Below w.heap.size w w' := by
  obtain ⟨u0, u1, u2, u3⟩ := hA.u
  have hv := hA.v
  have hlt := hA.w.lt
  by_cases hm : -256 < n ∧ n < 256
  · obtain ⟨s, hs⟩ : ∃ s : Nat, n % 64 = s := ⟨(n % 64).toNat, by omega⟩
    have := moved4_mid b a0 a1 a2 a3 u0 u1 u2 u3 n w hb hm.1 hm.2 s (by omega) (by rw [and63, hs]) hs h0 h1 h2 h3
    rw [hv] at this
    exact this
  · have hz : wideV (shiftZ A n) = .agg #[.int .u64 0, .int .u64 0, .int .u64 0, .int .u64 0] := by
      unfold wideV
      by_cases hn : 256 ≤ n
      · rw [limb_far 4 0 (by omega) (by omega), limb_far 4 1 (by omega) (by omega), limb_far 4 2 (by omega) (by omega), limb_far 4 3 (by omega) (by omega)]
      · rw [shiftZ_far 4 hlt (by omega)]; simp only [show ∀ i, limb i 0 = 0 from fun i => by unfold limb; simp]
    rw [hz]
    by_cases k1 : 256 < n
    · exact moved4_hi b a0 a1 a2 a3 u0 u1 u2 u3 n k1 n1 w hb h0 h1 h2 h3
    · by_cases k2 : n = 256
      · subst k2; exact moved4_hi0 b a0 a1 a2 a3 u0 u1 u2 u3 w hb h0 h1 h2 h3
      · by_cases k3 : n = -256
        · subst k3; exact moved4_lo0 b a0 a1 a2 a3 u0 u1 u2 u3 w hb h0 h1 h2 h3
        · exact moved4_lo b a0 a1 a2 a3 u0 u1 u2 u3 n (by omega) n0 w hb h0 h1 h2 h3

end Go.Proofs.YtpfoifflfgiaoaaGreatDoor
namespace Go.Proofs.YtpfoifflfgiaoaaGreatDoor
open Go.RowKit

/-- 256 bits shifted up, and down -/
def left256 (A : Nat) (n : Int) : Nat := A * 2 ^ n.toNat % 2 ^ 256
def rightN (A : Nat) (n : Int) : Nat := A / 2 ^ n.toNat

theorem left_up {A : Nat} {n : Int} (h : 0 ≤ n) : wideV (shiftZ A n) = wideV (left256 A n) := by
  unfold wideV left256 shiftZ
  rw [if_pos h, limb_mod256 0 _ (by omega), limb_mod256 1 _ (by omega), limb_mod256 2 _ (by omega), limb_mod256 3 _ (by omega)]
theorem left_no {A : Nat} (_hA : W256 A) {n : Int} (h : n ≤ 0) : wideV (shiftZ A 0) = wideV (left256 A n) := by
  rw [left_up (by omega)]; unfold left256; rw [show n.toNat = 0 by omega]; rfl
theorem right_down {A : Nat} {n : Int} (h : 0 < n) : shiftZ A (-n) = rightN A n := by
  unfold rightN shiftZ; rw [if_neg (by omega), Int.neg_neg]
theorem right_no {A : Nat} {n : Int} (h : n ≤ 0) : shiftZ A 0 = rightN A n := by
  unfold rightN shiftZ; rw [if_pos (by omega), show n.toNat = 0 by omega]; simp
theorem right_far {A : Nat} (hA : W256 A) {n : Int} (h : 256 ≤ n) : shiftZ A (-256) = rightN A n := by
  have := hA.lt
  rw [shiftZ_far 4 this (by omega)]
  unfold rightN
  exact (Nat.div_eq_of_lt (Nat.lt_of_lt_of_le this (Nat.pow_le_pow_right (by omega) (by omega)))).symm

set_option maxRecDepth 100000 in
set_option maxHeartbeats 800000 in
theorem WideLeft_at {a0 a1 a2 a3 : Int} {A : Nat} (hA : IsWide a0 a1 a2 a3 A) (n : Int) (n0 : -9223372036854775808 ≤ n) (n1 : n ≤ 9223372036854775807) (w : World) :
    Calls Tryz.prog 96 #[.agg #[.int .u64 a0, .int .u64 a1, .int .u64 a2, .int .u64 a3], .int .i64 n] w fun e w' => e = .returned (wideV (left256 A n)) ∧ Below w.heap.size w w' := by
  rcases Int.lt_trichotomy 0 n with k | k | k
  · go_enter Tryz.func96, Tryz.ntmps96
    go_wp2_with fail
    refine (moved4_any w.heap.size hA n (by omega) (by omega) _ (by simp only [World.size_alloc]; omega) (by go_simp) (by go_simp) (by go_simp) (by go_simp)).mono ?_
    rintro e w' ⟨rfl, hk⟩
    have hk1 : Kept w.heap.size w w' := Kept.step (((Kept.refl w).alloc _).alloc _) hk
    obtain ⟨hc, hf, hl, hm, hn⟩ := bcell hk
    go_wp2
    refine bodyPost_ret (v := wideV (shiftZ A n)) (by simp [results, Tryz.results96, go_sem, hc]) rfl ⟨by rw [left_up (by omega)], ?_⟩
    refine Kept.below ?_; repeat (first | exact hk1 | refine Kept.alloc ?_ _ | refine Kept.drew ?_ | refine Kept.setCell ?_ (by simp) _)
  · subst k
    go_enter Tryz.func96, Tryz.ntmps96
    go_wp2_with fail
    refine (moved4_any w.heap.size hA 0 (by omega) (by omega) _ (by simp only [World.size_alloc]; omega) (by go_simp) (by go_simp) (by go_simp) (by go_simp)).mono ?_
    rintro e w' ⟨rfl, hk⟩
    have hk1 : Kept w.heap.size w w' := Kept.step (((Kept.refl w).alloc _).alloc _) hk
    obtain ⟨hc, hf, hl, hm, hn⟩ := bcell hk
    go_wp2
    refine bodyPost_ret (v := wideV (shiftZ A 0)) (by simp [results, Tryz.results96, go_sem, hc]) rfl ⟨by rw [left_up (by omega)], ?_⟩
    refine Kept.below ?_; repeat (first | exact hk1 | refine Kept.alloc ?_ _ | refine Kept.drew ?_ | refine Kept.setCell ?_ (by simp) _)
  · go_enter Tryz.func96, Tryz.ntmps96
    go_wp2_with fail
    refine (moved4_any w.heap.size hA 0 (by omega) (by omega) _ (by simp only [World.size_alloc]; omega) (by go_simp) (by go_simp) (by go_simp) (by go_simp)).mono ?_
    rintro e w' ⟨rfl, hk⟩
    have hk1 : Kept w.heap.size w w' := Kept.step (((Kept.refl w).alloc _).alloc _) hk
    obtain ⟨hc, hf, hl, hm, hn⟩ := bcell hk
    go_wp2
    refine bodyPost_ret (v := wideV (shiftZ A 0)) (by simp [results, Tryz.results96, go_sem, hc]) rfl ⟨by rw [left_no (n := n) hA.w (by omega)], ?_⟩
    refine Kept.below ?_; repeat (first | exact hk1 | refine Kept.alloc ?_ _ | refine Kept.drew ?_ | refine Kept.setCell ?_ (by simp) _)

set_option maxRecDepth 100000 in
set_option maxHeartbeats 800000 in
theorem WideRight_at {a0 a1 a2 a3 : Int} {A : Nat} (hA : IsWide a0 a1 a2 a3 A) (n : Int) (n0 : -9223372036854775808 ≤ n) (n1 : n ≤ 9223372036854775807) (w : World) :
    Calls Tryz.prog 99 #[.agg #[.int .u64 a0, .int .u64 a1, .int .u64 a2, .int .u64 a3], .int .i64 n] w fun e w' => e = .returned (wideV (rightN A n)) ∧ Below w.heap.size w w' := by
  rcases Int.lt_trichotomy 0 n with k | k | k
  · rcases Int.lt_trichotomy 256 n with k2 | k2 | k2
    · go_enter Tryz.func99, Tryz.ntmps99
      go_wp2_with fail
      refine (moved4_any w.heap.size hA (-256) (by omega) (by omega) _ (by simp only [World.size_alloc]; omega) (by go_simp) (by go_simp) (by go_simp) (by go_simp)).mono ?_
      rintro e w' ⟨rfl, hk⟩
      have hk1 : Kept w.heap.size w w' := Kept.step (((Kept.refl w).alloc _).alloc _) hk
      obtain ⟨hc, hf, hl, hm, hn⟩ := bcell hk
      go_wp2
      refine bodyPost_ret (v := wideV (shiftZ A (-256))) (by simp [results, Tryz.results99, go_sem, hc]) rfl ⟨by rw [right_far (n := n) hA.w (by omega)], ?_⟩
      refine Kept.below ?_; repeat (first | exact hk1 | refine Kept.alloc ?_ _ | refine Kept.drew ?_ | refine Kept.setCell ?_ (by simp) _)
    · subst k2
      go_enter Tryz.func99, Tryz.ntmps99
      go_wp2_with fail
      refine (moved4_any w.heap.size hA (-256) (by omega) (by omega) _ (by simp only [World.size_alloc]; omega) (by go_simp) (by go_simp) (by go_simp) (by go_simp)).mono ?_
      rintro e w' ⟨rfl, hk⟩
      have hk1 : Kept w.heap.size w w' := Kept.step (((Kept.refl w).alloc _).alloc _) hk
      obtain ⟨hc, hf, hl, hm, hn⟩ := bcell hk
      go_wp2
      refine bodyPost_ret (v := wideV (shiftZ A (-256))) (by simp [results, Tryz.results99, go_sem, hc]) rfl ⟨by rw [right_far (n := 256) hA.w (by omega)], ?_⟩
      refine Kept.below ?_; repeat (first | exact hk1 | refine Kept.alloc ?_ _ | refine Kept.drew ?_ | refine Kept.setCell ?_ (by simp) _)
    · go_enter Tryz.func99, Tryz.ntmps99
      go_wp2_with fail
      refine (moved4_any w.heap.size hA (-n) (by omega) (by omega) _ (by simp only [World.size_alloc]; omega) (by go_simp) (by go_simp) (by go_simp) (by go_simp)).mono ?_
      rintro e w' ⟨rfl, hk⟩
      have hk1 : Kept w.heap.size w w' := Kept.step (((Kept.refl w).alloc _).alloc _) hk
      obtain ⟨hc, hf, hl, hm, hn⟩ := bcell hk
      go_wp2
      refine bodyPost_ret (v := wideV (shiftZ A (-n))) (by simp [results, Tryz.results99, go_sem, hc]) rfl ⟨by rw [right_down (n := n) (by omega)], ?_⟩
      refine Kept.below ?_; repeat (first | exact hk1 | refine Kept.alloc ?_ _ | refine Kept.drew ?_ | refine Kept.setCell ?_ (by simp) _)
  · subst k
    go_enter Tryz.func99, Tryz.ntmps99
    go_wp2_with fail
    refine (moved4_any w.heap.size hA 0 (by omega) (by omega) _ (by simp only [World.size_alloc]; omega) (by go_simp) (by go_simp) (by go_simp) (by go_simp)).mono ?_
    rintro e w' ⟨rfl, hk⟩
    have hk1 : Kept w.heap.size w w' := Kept.step (((Kept.refl w).alloc _).alloc _) hk
    obtain ⟨hc, hf, hl, hm, hn⟩ := bcell hk
    go_wp2
    refine bodyPost_ret (v := wideV (shiftZ A 0)) (by simp [results, Tryz.results99, go_sem, hc]) rfl ⟨by rw [right_no (n := 0) (by omega)], ?_⟩
    refine Kept.below ?_; repeat (first | exact hk1 | refine Kept.alloc ?_ _ | refine Kept.drew ?_ | refine Kept.setCell ?_ (by simp) _)
  · go_enter Tryz.func99, Tryz.ntmps99
    go_wp2_with fail
    refine (moved4_any w.heap.size hA 0 (by omega) (by omega) _ (by simp only [World.size_alloc]; omega) (by go_simp) (by go_simp) (by go_simp) (by go_simp)).mono ?_
    rintro e w' ⟨rfl, hk⟩
    have hk1 : Kept w.heap.size w w' := Kept.step (((Kept.refl w).alloc _).alloc _) hk
    obtain ⟨hc, hf, hl, hm, hn⟩ := bcell hk
    go_wp2
    refine bodyPost_ret (v := wideV (shiftZ A 0)) (by simp [results, Tryz.results99, go_sem, hc]) rfl ⟨by rw [right_no (n := n) (by omega)], ?_⟩
    refine Kept.below ?_; repeat (first | exact hk1 | refine Kept.alloc ?_ _ | refine Kept.drew ?_ | refine Kept.setCell ?_ (by simp) _)
end Go.Proofs.YtpfoifflfgiaoaaGreatDoor
namespace Go.Proofs.YtpfoifflfgiaoaaGreatDoor
open Go.RowKit

def lostB (A : Nat) (n : Int) : Bool := decide (A % 2 ^ n.toNat ≠ 0)
theorem right_w {A : Nat} (hA : W256 A) (n : Int) : W256 (rightN A n) := ⟨Nat.lt_of_le_of_lt (Nat.div_le_self _ _) hA.lt⟩
theorem left_w (A : Nat) (n : Int) : W256 (left256 A n) := ⟨Nat.mod_lt _ (by omega)⟩
theorem back_lost {A : Nat} (hA : W256 A) (n : Int) : left256 (rightN A n) n = A - A % 2 ^ n.toNat := by
  have := hA.lt
  have h := Nat.div_add_mod A (2 ^ n.toNat)
  rw [Nat.mul_comm] at h
  unfold left256 rightN
  have h2 : A / 2 ^ n.toNat * 2 ^ n.toNat = A - A % 2 ^ n.toNat := by omega
  rw [h2, Nat.mod_eq_of_lt (by omega)]

set_option maxRecDepth 100000 in
set_option maxHeartbeats 2000000 in
theorem Lost_no {A : Nat} (hA : W256 A) (n : Int) (n0 : -9223372036854775808 ≤ n) (n1 : n ≤ 9223372036854775807) (h : left256 (rightN A n) n = A) (w : World) :
    Calls Tryz.prog 234 #[wideV A, .int .i64 n] w fun e w' => e = .returned (.bool false) ∧ Below w.heap.size w w' := by
  have f1 := h
  have hs : ∀ W W' : World, Below W.heap.size W W' → (Kept w.heap.size w W ∧ w.heap.size < W.heap.size ∧ W.cell? ⟨w.heap.size, 0, none⟩ = some (.int .u64 (limb 0 A)) ∧ W.cell? ⟨w.heap.size, 1, none⟩ = some (.int .u64 (limb 1 A)) ∧ W.cell? ⟨w.heap.size, 2, none⟩ = some (.int .u64 (limb 2 A)) ∧ W.cell? ⟨w.heap.size, 3, none⟩ = some (.int .u64 (limb 3 A))) → (Kept w.heap.size w W' ∧ w.heap.size < W'.heap.size ∧ W'.cell? ⟨w.heap.size, 0, none⟩ = some (.int .u64 (limb 0 A)) ∧ W'.cell? ⟨w.heap.size, 1, none⟩ = some (.int .u64 (limb 1 A)) ∧ W'.cell? ⟨w.heap.size, 2, none⟩ = some (.int .u64 (limb 2 A)) ∧ W'.cell? ⟨w.heap.size, 3, none⟩ = some (.int .u64 (limb 3 A))) := fun W W' hb h => ⟨h.1.step hb, Nat.lt_of_lt_of_le (h.2.1) hb.size, (hb.cell (h.2.1)).trans (h.2.2.1), (hb.cell (h.2.1)).trans (h.2.2.2.1), (hb.cell (h.2.1)).trans (h.2.2.2.2.1), (hb.cell (h.2.1)).trans (h.2.2.2.2.2)⟩
  have HS := Lib.hid hs; clear hs
  go_enter Tryz.func234, Tryz.ntmps234
  go_wp2
  go_region_held3 (fun W' => Kept w.heap.size w W' ∧ w.heap.size < W'.heap.size ∧ W'.cell? ⟨w.heap.size, 0, none⟩ = some (.int .u64 (limb 0 A)) ∧ W'.cell? ⟨w.heap.size, 1, none⟩ = some (.int .u64 (limb 1 A)) ∧ W'.cell? ⟨w.heap.size, 2, none⟩ = some (.int .u64 (limb 2 A)) ∧ W'.cell? ⟨w.heap.size, 3, none⟩ = some (.int .u64 (limb 3 A)))
    ((first | exact HS.out _ _ (by assumption) (by assumption) | assumption | exact ⟨by repeat (first | exact Kept.refl _ | refine Kept.alloc ?_ _ | refine Kept.drew ?_), by go_simp, by go_simp, by go_simp, by go_simp, by go_simp⟩))
    (first
      | (go_at_call 99; refine (WideRight_at (by first | (refine IsWide.of ?_; first | assumption | exact right_w hA _ | exact left_w _ _) | (refine IsWide.val ?_ ?_ ?_ ?_ <;> first | assumption | exact u64_zero | exact limb_u64 _ _)) n n0 n1 _).mono ?_; rintro e w' ⟨rfl, hb⟩)
      | (go_at_call 96; refine (WideLeft_at (by first | (refine IsWide.of ?_; first | assumption | exact right_w hA _ | exact left_w _ _) | (refine IsWide.val ?_ ?_ ?_ ?_ <;> first | assumption | exact u64_zero | exact limb_u64 _ _)) n n0 n1 _).mono ?_; rintro e w' ⟨rfl, hb⟩))
  all_goals go_wp2
  all_goals go_ret
  all_goals (refine ⟨rfl, ?_⟩; apply kept_of; assumption)

set_option maxRecDepth 100000 in
set_option maxHeartbeats 2000000 in
theorem Lost_yes {A : Nat} (hA : W256 A) (n : Int) (n0 : -9223372036854775808 ≤ n) (n1 : n ≤ 9223372036854775807) (h : left256 (rightN A n) n ≠ A) (w : World) :
    Calls Tryz.prog 234 #[wideV A, .int .i64 n] w fun e w' => e = .returned (.bool true) ∧ Below w.heap.size w w' := by
  have f1 := eqN_no (left_w (rightN A n) n) hA h
  clear h
  have hs : ∀ W W' : World, Below W.heap.size W W' → (Kept w.heap.size w W ∧ w.heap.size < W.heap.size ∧ W.cell? ⟨w.heap.size, 0, none⟩ = some (.int .u64 (limb 0 A)) ∧ W.cell? ⟨w.heap.size, 1, none⟩ = some (.int .u64 (limb 1 A)) ∧ W.cell? ⟨w.heap.size, 2, none⟩ = some (.int .u64 (limb 2 A)) ∧ W.cell? ⟨w.heap.size, 3, none⟩ = some (.int .u64 (limb 3 A))) → (Kept w.heap.size w W' ∧ w.heap.size < W'.heap.size ∧ W'.cell? ⟨w.heap.size, 0, none⟩ = some (.int .u64 (limb 0 A)) ∧ W'.cell? ⟨w.heap.size, 1, none⟩ = some (.int .u64 (limb 1 A)) ∧ W'.cell? ⟨w.heap.size, 2, none⟩ = some (.int .u64 (limb 2 A)) ∧ W'.cell? ⟨w.heap.size, 3, none⟩ = some (.int .u64 (limb 3 A))) := fun W W' hb h => ⟨h.1.step hb, Nat.lt_of_lt_of_le (h.2.1) hb.size, (hb.cell (h.2.1)).trans (h.2.2.1), (hb.cell (h.2.1)).trans (h.2.2.2.1), (hb.cell (h.2.1)).trans (h.2.2.2.2.1), (hb.cell (h.2.1)).trans (h.2.2.2.2.2)⟩
  have HS := Lib.hid hs; clear hs
  go_enter Tryz.func234, Tryz.ntmps234
  go_wp2
  go_region_held3 (fun W' => Kept w.heap.size w W' ∧ w.heap.size < W'.heap.size ∧ W'.cell? ⟨w.heap.size, 0, none⟩ = some (.int .u64 (limb 0 A)) ∧ W'.cell? ⟨w.heap.size, 1, none⟩ = some (.int .u64 (limb 1 A)) ∧ W'.cell? ⟨w.heap.size, 2, none⟩ = some (.int .u64 (limb 2 A)) ∧ W'.cell? ⟨w.heap.size, 3, none⟩ = some (.int .u64 (limb 3 A)))
    ((first | exact HS.out _ _ (by assumption) (by assumption) | assumption | exact ⟨by repeat (first | exact Kept.refl _ | refine Kept.alloc ?_ _ | refine Kept.drew ?_), by go_simp, by go_simp, by go_simp, by go_simp, by go_simp⟩))
    (first
      | (go_at_call 99; refine (WideRight_at (by first | (refine IsWide.of ?_; first | assumption | exact right_w hA _ | exact left_w _ _) | (refine IsWide.val ?_ ?_ ?_ ?_ <;> first | assumption | exact u64_zero | exact limb_u64 _ _)) n n0 n1 _).mono ?_; rintro e w' ⟨rfl, hb⟩)
      | (go_at_call 96; refine (WideLeft_at (by first | (refine IsWide.of ?_; first | assumption | exact right_w hA _ | exact left_w _ _) | (refine IsWide.val ?_ ?_ ?_ ?_ <;> first | assumption | exact u64_zero | exact limb_u64 _ _)) n n0 n1 _).mono ?_; rintro e w' ⟨rfl, hb⟩))
  all_goals go_wp2
  all_goals go_ret
  all_goals (refine ⟨rfl, ?_⟩; apply kept_of; assumption)

theorem lost_of {A : Nat} (hA : W256 A) (n : Int) : lostB A n = decide (left256 (rightN A n) n ≠ A) := by
  unfold lostB
  rw [back_lost hA, decide_eq_decide]
  have := Nat.mod_le A (2 ^ n.toNat)
  omega
theorem Lost_at {a0 a1 a2 a3 : Int} {A : Nat} (hA : IsWide a0 a1 a2 a3 A) (n : Int) (n0 : -9223372036854775808 ≤ n) (n1 : n ≤ 9223372036854775807) (w : World) :
    Calls Tryz.prog 234 #[.agg #[.int .u64 a0, .int .u64 a1, .int .u64 a2, .int .u64 a3], .int .i64 n] w fun e w' => e = .returned (.bool (lostB A n)) ∧ Below w.heap.size w w' := by
  rw [hA.e0, hA.e1, hA.e2, hA.e3, lost_of hA.w]
  by_cases h : left256 (rightN A n) n = A
  · rw [decide_eq_false (by simpa using h)]
    exact Lost_no hA.w n n0 n1 h w
  · rw [decide_eq_true h]
    exact Lost_yes hA.w n n0 n1 h w

end Go.Proofs.YtpfoifflfgiaoaaGreatDoor
namespace Go.Proofs.YtpfoifflfgiaoaaGreatDoor
open Go.RowKit

set_option maxRecDepth 100000 in
set_option maxHeartbeats 400000 in
theorem two_any (b : Nat) (a0 a1 : Int) (w : World) (hb : b < w.heap.size) (h0 : w.cell? ⟨b, 0, none⟩ = some (.int .u64 a0)) (h1 : w.cell? ⟨b, 1, none⟩ = some (.int .u64 a1)) :
    Calls Tryz.prog 215 #[.slice (some ⟨b, 0, none⟩) 2 2] w fun e w' => e = .returned (.agg #[.int .u64 a1, .int .u64 a0]) ∧ Below w.heap.size w w' := by
  go_enter Tryz.func215, Tryz.ntmps215
  go_wp2
  go_region
  all_goals go_wp2
  all_goals refine bodyPost_ret (v := .agg #[.int .u64 a1, .int .u64 a0]) (by simp [results, Tryz.results215, go_sem]) rfl ⟨rfl, ?_⟩
  all_goals (refine Kept.below ?_; repeat (first | exact Kept.refl _ | refine Kept.alloc ?_ _ | refine Kept.drew ?_ | refine Kept.setCell ?_ (by simp; try omega) _))

set_option maxRecDepth 100000 in
set_option maxHeartbeats 1000000 in
theorem moved2_mid (b : Nat) (a0 a1 : Int) (u0 : U64 a0) (u1 : U64 a1) (n : Int) (w : World) (hb : b < w.heap.size) (hn1 : -128 < n) (hn2 : n < 128) (s : Nat) (hs : s < 64) (hA : bits .and .i64 n 63 = (s : Int)) (hq : n % 64 = s) (h0 : w.cell? ⟨b, 0, none⟩ = some (.int .u64 a0)) (h1 : w.cell? ⟨b, 1, none⟩ = some (.int .u64 a1)) :
    Calls Tryz.prog 213 #[.slice (some ⟨b, 0, none⟩) 2 2, .int .i64 n, .func (.func 215) #[] #[]] w fun e w' => e = .returned (bitsV (shiftZ (val2 a0 a1) n)) ∧ Below w.heap.size w w' := by
  have E0 := moved2_at u0 u1 (n := n) (q := -(n / 64)) 0 s (by omega) hq hs
  have E1 := moved2_at u0 u1 (n := n) (q := 1 - n / 64) 1 s (by omega) hq hs
  have E := Lib.hid (And.intro E0 E1); clear E0 E1
  have HQ := Lib.hid hq; clear hq
  have hmk := mk2
  have hb1 : b < w.heap.size + 1 := by omega
  have hb2 : b < w.heap.size + 1 + 1 := by omega
  have hb3 : b < w.heap.size + 1 + 1 + 1 := by omega
  go_enter Tryz.func213, Tryz.ntmps213
  go_wp2_with fail
  refine wp_loop_rounds 3 ?_
  rw [rounds_succ]
  go_wp2_with (go_at_call 260; refine (part2_any b _ a0 a1 _ _ (by go_simp) (by go_simp) (by go_simp)).mono ?_; rintro e w' ⟨rfl, rfl⟩)
  rw [rounds_succ]
  go_wp2_with (go_at_call 260; refine (part2_any b _ a0 a1 _ _ (by go_simp) (by go_simp) (by go_simp)).mono ?_; rintro e w' ⟨rfl, rfl⟩)
  rw [rounds_succ]
  go_wp2_with fail
  rw [E.out.1, E.out.2]
  refine (two_any _ (limb 0 (shiftZ (val2 a0 a1) n)) (limb 1 (shiftZ (val2 a0 a1) n)) _ (by go_simp) (by go_simp) (by go_simp)).mono ?_
  rintro e w' ⟨rfl, hk⟩
  have hk1 : Kept w.heap.size w w' := Kept.step (((Kept.refl w).alloc _).alloc _ |>.alloc _) hk
  obtain ⟨hc, hf, hl, hm, hn⟩ := bcell hk
  go_wp2
  refine bodyPost_ret (v := bitsV (shiftZ (val2 a0 a1) n)) (by simp [results, Tryz.results213, go_sem, hc]) rfl ⟨rfl, ?_⟩
  refine Kept.below ?_; repeat (first | exact hk1 | refine Kept.alloc ?_ _ | refine Kept.drew ?_ | refine Kept.setCell ?_ (by simp) _)

set_option maxRecDepth 100000 in
set_option maxHeartbeats 1000000 in
theorem moved2_hi (b : Nat) (a0 a1 : Int) (_u0 : U64 a0) (_u1 : U64 a1) (n : Int) (hn : 128 < n) (_hn2 : n ≤ 9223372036854775807) (w : World) (hb : b < w.heap.size) (h0 : w.cell? ⟨b, 0, none⟩ = some (.int .u64 a0)) (h1 : w.cell? ⟨b, 1, none⟩ = some (.int .u64 a1)) :
    Calls Tryz.prog 213 #[.slice (some ⟨b, 0, none⟩) 2 2, .int .i64 n, .func (.func 215) #[] #[]] w fun e w' => e = .returned (.agg #[.int .u64 0, .int .u64 0]) ∧ Below w.heap.size w w' := by
  have hmk := mk2
  have hb1 : b < w.heap.size + 1 := by omega
  have hb2 : b < w.heap.size + 1 + 1 := by omega
  have hb3 : b < w.heap.size + 1 + 1 + 1 := by omega
  have hA : bits .and .i64 128 63 = 0 := by decide
  have hO : bits .or .u64 0 0 = 0 := by decide
  have p1 : part2 a0 a1 (-1) = 0 := rfl
  have p2 : part2 a0 a1 (-2) = 0 := rfl
  have p3 : part2 a0 a1 (-3) = 0 := rfl
  go_enter Tryz.func213, Tryz.ntmps213
  go_wp2_with fail
  refine wp_loop_rounds 3 ?_
  rw [rounds_succ]
  go_wp2_with (go_at_call 260; refine (part2_any b _ a0 a1 _ _ (by go_simp) (by go_simp) (by go_simp)).mono ?_; rintro e w' ⟨rfl, rfl⟩)
  rw [rounds_succ]
  go_wp2_with (go_at_call 260; refine (part2_any b _ a0 a1 _ _ (by go_simp) (by go_simp) (by go_simp)).mono ?_; rintro e w' ⟨rfl, rfl⟩)
  rw [rounds_succ]
  go_wp2_with fail
  refine (two_any _ (0) (0) _ (by go_simp) (by go_simp) (by go_simp)).mono ?_
  rintro e w' ⟨rfl, hk⟩
  have hk1 : Kept w.heap.size w w' := Kept.step (((Kept.refl w).alloc _).alloc _ |>.alloc _) hk
  obtain ⟨hc, hf, hl, hm, hn⟩ := bcell hk
  go_wp2
  refine bodyPost_ret (v := .agg #[.int .u64 0, .int .u64 0]) (by simp [results, Tryz.results213, go_sem, hc]) rfl ⟨rfl, ?_⟩
  refine Kept.below ?_; repeat (first | exact hk1 | refine Kept.alloc ?_ _ | refine Kept.drew ?_ | refine Kept.setCell ?_ (by simp) _)

set_option maxRecDepth 100000 in
set_option maxHeartbeats 1000000 in
theorem moved2_hi0 (b : Nat) (a0 a1 : Int) (_u0 : U64 a0) (_u1 : U64 a1) (w : World) (hb : b < w.heap.size) (h0 : w.cell? ⟨b, 0, none⟩ = some (.int .u64 a0)) (h1 : w.cell? ⟨b, 1, none⟩ = some (.int .u64 a1)) :
    Calls Tryz.prog 213 #[.slice (some ⟨b, 0, none⟩) 2 2, .int .i64 128, .func (.func 215) #[] #[]] w fun e w' => e = .returned (.agg #[.int .u64 0, .int .u64 0]) ∧ Below w.heap.size w w' := by
  have hmk := mk2
  have hb1 : b < w.heap.size + 1 := by omega
  have hb2 : b < w.heap.size + 1 + 1 := by omega
  have hb3 : b < w.heap.size + 1 + 1 + 1 := by omega
  have hA : bits .and .i64 128 63 = 0 := by decide
  have hO : bits .or .u64 0 0 = 0 := by decide
  have p1 : part2 a0 a1 (-1) = 0 := rfl
  have p2 : part2 a0 a1 (-2) = 0 := rfl
  have p3 : part2 a0 a1 (-3) = 0 := rfl
  go_enter Tryz.func213, Tryz.ntmps213
  go_wp2_with fail
  refine wp_loop_rounds 3 ?_
  rw [rounds_succ]
  go_wp2_with (go_at_call 260; refine (part2_any b _ a0 a1 _ _ (by go_simp) (by go_simp) (by go_simp)).mono ?_; rintro e w' ⟨rfl, rfl⟩)
  rw [rounds_succ]
  go_wp2_with (go_at_call 260; refine (part2_any b _ a0 a1 _ _ (by go_simp) (by go_simp) (by go_simp)).mono ?_; rintro e w' ⟨rfl, rfl⟩)
  rw [rounds_succ]
  go_wp2_with fail
  refine (two_any _ (0) (0) _ (by go_simp) (by go_simp) (by go_simp)).mono ?_
  rintro e w' ⟨rfl, hk⟩
  have hk1 : Kept w.heap.size w w' := Kept.step (((Kept.refl w).alloc _).alloc _ |>.alloc _) hk
  obtain ⟨hc, hf, hl, hm, hn⟩ := bcell hk
  go_wp2
  refine bodyPost_ret (v := .agg #[.int .u64 0, .int .u64 0]) (by simp [results, Tryz.results213, go_sem, hc]) rfl ⟨rfl, ?_⟩
  refine Kept.below ?_; repeat (first | exact hk1 | refine Kept.alloc ?_ _ | refine Kept.drew ?_ | refine Kept.setCell ?_ (by simp) _)

set_option maxRecDepth 100000 in
set_option maxHeartbeats 1000000 in
theorem moved2_lo (b : Nat) (a0 a1 : Int) (_u0 : U64 a0) (u1 : U64 a1) (n : Int) (hn : n < -128) (hn2 : -9223372036854775808 ≤ n) (w : World) (hb : b < w.heap.size) (h0 : w.cell? ⟨b, 0, none⟩ = some (.int .u64 a0)) (h1 : w.cell? ⟨b, 1, none⟩ = some (.int .u64 a1)) :
    Calls Tryz.prog 213 #[.slice (some ⟨b, 0, none⟩) 2 2, .int .i64 n, .func (.func 215) #[] #[]] w fun e w' => e = .returned (.agg #[.int .u64 0, .int .u64 0]) ∧ Below w.heap.size w w' := by
  have hmk := mk2
  have hb1 : b < w.heap.size + 1 := by omega
  have hb2 : b < w.heap.size + 1 + 1 := by omega
  have hb3 : b < w.heap.size + 1 + 1 + 1 := by omega
  have hA : bits .and .i64 (-128) 63 = 0 := by decide
  have hO : bits .or .u64 0 0 = 0 := by decide
  have p4 : part2 a0 a1 2 = 0 := rfl
  have p5 : part2 a0 a1 3 = 0 := rfl
  have p3 : part2 a0 a1 1 = a1 := rfl
  have hq3 : a1 / 2 / 9223372036854775808 = 0 := by have := u1.lo; have := u1.hi; omega
  go_enter Tryz.func213, Tryz.ntmps213
  go_wp2_with fail
  refine wp_loop_rounds 3 ?_
  rw [rounds_succ]
  go_wp2_with (go_at_call 260; refine (part2_any b _ a0 a1 _ _ (by go_simp) (by go_simp) (by go_simp)).mono ?_; rintro e w' ⟨rfl, rfl⟩)
  rw [rounds_succ]
  go_wp2_with (go_at_call 260; refine (part2_any b _ a0 a1 _ _ (by go_simp) (by go_simp) (by go_simp)).mono ?_; rintro e w' ⟨rfl, rfl⟩)
  rw [rounds_succ]
  go_wp2_with fail
  refine (two_any _ (0) (0) _ (by go_simp) (by go_simp) (by go_simp)).mono ?_
  rintro e w' ⟨rfl, hk⟩
  have hk1 : Kept w.heap.size w w' := Kept.step (((Kept.refl w).alloc _).alloc _ |>.alloc _) hk
  obtain ⟨hc, hf, hl, hm, hn⟩ := bcell hk
  go_wp2
  refine bodyPost_ret (v := .agg #[.int .u64 0, .int .u64 0]) (by simp [results, Tryz.results213, go_sem, hc]) rfl ⟨rfl, ?_⟩
  refine Kept.below ?_; repeat (first | exact hk1 | refine Kept.alloc ?_ _ | refine Kept.drew ?_ | refine Kept.setCell ?_ (by simp) _)

set_option maxRecDepth 100000 in
set_option maxHeartbeats 1000000 in
theorem moved2_lo0 (b : Nat) (a0 a1 : Int) (_u0 : U64 a0) (u1 : U64 a1) (w : World) (hb : b < w.heap.size) (h0 : w.cell? ⟨b, 0, none⟩ = some (.int .u64 a0)) (h1 : w.cell? ⟨b, 1, none⟩ = some (.int .u64 a1)) :
    Calls Tryz.prog 213 #[.slice (some ⟨b, 0, none⟩) 2 2, .int .i64 (-128), .func (.func 215) #[] #[]] w fun e w' => e = .returned (.agg #[.int .u64 0, .int .u64 0]) ∧ Below w.heap.size w w' := by
  have hmk := mk2
  have hb1 : b < w.heap.size + 1 := by omega
  have hb2 : b < w.heap.size + 1 + 1 := by omega
  have hb3 : b < w.heap.size + 1 + 1 + 1 := by omega
  have hA : bits .and .i64 (-128) 63 = 0 := by decide
  have hO : bits .or .u64 0 0 = 0 := by decide
  have p4 : part2 a0 a1 2 = 0 := rfl
  have p5 : part2 a0 a1 3 = 0 := rfl
  have p3 : part2 a0 a1 1 = a1 := rfl
  have hq3 : a1 / 2 / 9223372036854775808 = 0 := by have := u1.lo; have := u1.hi; omega
  go_enter Tryz.func213, Tryz.ntmps213
  go_wp2_with fail
  refine wp_loop_rounds 3 ?_
  rw [rounds_succ]
  go_wp2_with (go_at_call 260; refine (part2_any b _ a0 a1 _ _ (by go_simp) (by go_simp) (by go_simp)).mono ?_; rintro e w' ⟨rfl, rfl⟩)
  rw [rounds_succ]
  go_wp2_with (go_at_call 260; refine (part2_any b _ a0 a1 _ _ (by go_simp) (by go_simp) (by go_simp)).mono ?_; rintro e w' ⟨rfl, rfl⟩)
  rw [rounds_succ]
  go_wp2_with fail
  refine (two_any _ (0) (0) _ (by go_simp) (by go_simp) (by go_simp)).mono ?_
  rintro e w' ⟨rfl, hk⟩
  have hk1 : Kept w.heap.size w w' := Kept.step (((Kept.refl w).alloc _).alloc _ |>.alloc _) hk
  obtain ⟨hc, hf, hl, hm, hn⟩ := bcell hk
  go_wp2
  refine bodyPost_ret (v := .agg #[.int .u64 0, .int .u64 0]) (by simp [results, Tryz.results213, go_sem, hc]) rfl ⟨rfl, ?_⟩
  refine Kept.below ?_; repeat (first | exact hk1 | refine Kept.alloc ?_ _ | refine Kept.drew ?_ | refine Kept.setCell ?_ (by simp) _)

theorem moved2_any (b : Nat) {a1 a0 : Int} {A : Nat} (hA : IsBits a1 a0 A) (n : Int) (n0 : -9223372036854775808 ≤ n) (n1 : n ≤ 9223372036854775807) (w : World) (hb : b < w.heap.size) (h0 : w.cell? ⟨b, 0, none⟩ = some (.int .u64 a0)) (h1 : w.cell? ⟨b, 1, none⟩ = some (.int .u64 a1)) :
    Calls Tryz.prog 213 #[.slice (some ⟨b, 0, none⟩) 2 2, .int .i64 n, .func (.func 215) #[] #[]] w fun e w' => e = .returned (bitsV (shiftZ A n)) ∧ Below w.heap.size w w' := by
  have u0 := hA.u0
  have u1 := hA.u1
  have hv := hA.v
  have hlt := hA.w.lt
  by_cases hm : -128 < n ∧ n < 128
  · obtain ⟨s, hs⟩ : ∃ s : Nat, n % 64 = s := ⟨(n % 64).toNat, by omega⟩
    have := moved2_mid b a0 a1 u0 u1 n w hb hm.1 hm.2 s (by omega) (by rw [and63, hs]) hs h0 h1
    rw [hv] at this
    exact this
  · have hz : bitsV (shiftZ A n) = .agg #[.int .u64 0, .int .u64 0] := by
      unfold bitsV
      by_cases hn : 128 ≤ n
      · rw [limb_far 2 0 (by omega) (by omega), limb_far 2 1 (by omega) (by omega)]
      · rw [shiftZ_far 2 hlt (by omega)]; simp only [show ∀ i, limb i 0 = 0 from fun i => by unfold limb; simp]
    rw [hz]
    by_cases k1 : 128 < n
    · exact moved2_hi b a0 a1 u0 u1 n k1 n1 w hb h0 h1
    · by_cases k2 : n = 128
      · subst k2; exact moved2_hi0 b a0 a1 u0 u1 w hb h0 h1
      · by_cases k3 : n = -128
        · subst k3; exact moved2_lo0 b a0 a1 u0 u1 w hb h0 h1
        · exact moved2_lo b a0 a1 u0 u1 n (by omega) n0 w hb h0 h1

end Go.Proofs.YtpfoifflfgiaoaaGreatDoor
namespace Go.Proofs.YtpfoifflfgiaoaaGreatDoor
open Go.RowKit

/-- 128 bits shifted up -/
def left128 (A : Nat) (n : Int) : Nat := A * 2 ^ n.toNat % 2 ^ 128
theorem left_up2 {A : Nat} {n : Int} (h : 0 ≤ n) : bitsV (shiftZ A n) = bitsV (left128 A n) := by
  unfold bitsV left128 shiftZ
  rw [if_pos h, limb_mod128 0 _ (by omega), limb_mod128 1 _ (by omega)]
theorem left_no2 {A : Nat} {n : Int} (h : n ≤ 0) : bitsV (shiftZ A 0) = bitsV (left128 A n) := by
  rw [left_up2 (by omega)]; unfold left128; rw [show n.toNat = 0 by omega]; rfl
theorem right_far2 {A : Nat} (hA : W128 A) {n : Int} (h : 128 ≤ n) : shiftZ A (-128) = rightN A n := by
  have := hA.lt
  rw [shiftZ_far 2 this (by omega)]
  unfold rightN
  exact (Nat.div_eq_of_lt (Nat.lt_of_lt_of_le this (Nat.pow_le_pow_right (by omega) (by omega)))).symm

set_option maxRecDepth 100000 in
set_option maxHeartbeats 400000 in
theorem parts_any (a1 a0 : Int) (w : World) :
    Calls Tryz.prog 214 #[.agg #[.int .u64 a1, .int .u64 a0]] w fun e w' => e = .returned (.slice (some ⟨w.heap.size + 1, 0, none⟩) 2 2) ∧ (w.alloc (.cells #[.int .u64 a1, .int .u64 a0] 29)).alloc (.cells #[.int .u64 a0, .int .u64 a1] 27) = w' := by
  go_enter Tryz.func214, Tryz.ntmps214
  go_wp2
  go_ret
  exact ⟨by simp, rfl⟩

set_option maxRecDepth 100000 in
set_option maxHeartbeats 800000 in
theorem Left_at {a1 a0 : Int} {A : Nat} (hA : IsBits a1 a0 A) (n : Int) (n0 : -9223372036854775808 ≤ n) (n1 : n ≤ 9223372036854775807) (w : World) :
    Calls Tryz.prog 140 #[.agg #[.int .u64 a1, .int .u64 a0], .int .i64 n] w fun e w' => e = .returned (bitsV (left128 A n)) ∧ Below w.heap.size w w' := by
  rcases (by omega : 0 < n ∨ n = 0 ∨ n < 0) with k | k | k
  · go_enter Tryz.func140, Tryz.ntmps140
    go_wp2_with (first | (go_at_call 214; refine (parts_any _ _ _).mono ?_; rintro e w' ⟨rfl, rfl⟩) | (go_at_call 213; refine (moved2_any (w.heap.size + 1 + 1 + 1) hA n (by omega) (by omega) _ (by simp) (by go_simp) (by go_simp)).mono ?_; rintro e w' ⟨rfl, hk⟩; have hk1 : Kept w.heap.size w w' := Kept.step (by repeat (first | exact Kept.refl _ | refine Kept.alloc ?_ _)) hk; obtain ⟨hc, hf, hl, hm, hn⟩ := bcell hk))
    refine bodyPost_ret (v := bitsV (shiftZ A n)) (by simp [results, Tryz.results140, go_sem, hc]) rfl ⟨by rw [left_up2 (by omega)], ?_⟩
    refine Kept.below ?_; repeat (first | exact hk1 | refine Kept.alloc ?_ _ | refine Kept.drew ?_ | refine Kept.setCell ?_ (by simp) _)
  · subst k
    go_enter Tryz.func140, Tryz.ntmps140
    go_wp2_with (first | (go_at_call 214; refine (parts_any _ _ _).mono ?_; rintro e w' ⟨rfl, rfl⟩) | (go_at_call 213; refine (moved2_any (w.heap.size + 1 + 1 + 1) hA 0 (by omega) (by omega) _ (by simp) (by go_simp) (by go_simp)).mono ?_; rintro e w' ⟨rfl, hk⟩; have hk1 : Kept w.heap.size w w' := Kept.step (by repeat (first | exact Kept.refl _ | refine Kept.alloc ?_ _)) hk; obtain ⟨hc, hf, hl, hm, hn⟩ := bcell hk))
    refine bodyPost_ret (v := bitsV (shiftZ A 0)) (by simp [results, Tryz.results140, go_sem, hc]) rfl ⟨by rw [left_up2 (by omega)], ?_⟩
    refine Kept.below ?_; repeat (first | exact hk1 | refine Kept.alloc ?_ _ | refine Kept.drew ?_ | refine Kept.setCell ?_ (by simp) _)
  · go_enter Tryz.func140, Tryz.ntmps140
    go_wp2_with (first | (go_at_call 214; refine (parts_any _ _ _).mono ?_; rintro e w' ⟨rfl, rfl⟩) | (go_at_call 213; refine (moved2_any (w.heap.size + 1 + 1 + 1) hA 0 (by omega) (by omega) _ (by simp) (by go_simp) (by go_simp)).mono ?_; rintro e w' ⟨rfl, hk⟩; have hk1 : Kept w.heap.size w w' := Kept.step (by repeat (first | exact Kept.refl _ | refine Kept.alloc ?_ _)) hk; obtain ⟨hc, hf, hl, hm, hn⟩ := bcell hk))
    refine bodyPost_ret (v := bitsV (shiftZ A 0)) (by simp [results, Tryz.results140, go_sem, hc]) rfl ⟨by rw [left_no2 (n := n) (by omega)], ?_⟩
    refine Kept.below ?_; repeat (first | exact hk1 | refine Kept.alloc ?_ _ | refine Kept.drew ?_ | refine Kept.setCell ?_ (by simp) _)

set_option maxRecDepth 100000 in
set_option maxHeartbeats 800000 in
theorem Right_at {a1 a0 : Int} {A : Nat} (hA : IsBits a1 a0 A) (n : Int) (n0 : -9223372036854775808 ≤ n) (n1 : n ≤ 9223372036854775807) (w : World) :
    Calls Tryz.prog 184 #[.agg #[.int .u64 a1, .int .u64 a0], .int .i64 n] w fun e w' => e = .returned (bitsV (rightN A n)) ∧ Below w.heap.size w w' := by
  rcases (by omega : 128 < n ∨ n = 128 ∨ 0 < n ∧ n < 128 ∨ n = 0 ∨ n < 0) with k | k | k | k | k
  · go_enter Tryz.func184, Tryz.ntmps184
    go_wp2_with (first | (go_at_call 214; refine (parts_any _ _ _).mono ?_; rintro e w' ⟨rfl, rfl⟩) | (go_at_call 213; refine (moved2_any (w.heap.size + 1 + 1 + 1) hA (-128) (by omega) (by omega) _ (by simp) (by go_simp) (by go_simp)).mono ?_; rintro e w' ⟨rfl, hk⟩; have hk1 : Kept w.heap.size w w' := Kept.step (by repeat (first | exact Kept.refl _ | refine Kept.alloc ?_ _)) hk; obtain ⟨hc, hf, hl, hm, hn⟩ := bcell hk))
    refine bodyPost_ret (v := bitsV (shiftZ A (-128))) (by simp [results, Tryz.results184, go_sem, hc]) rfl ⟨by rw [right_far2 (n := n) hA.w (by omega)], ?_⟩
    refine Kept.below ?_; repeat (first | exact hk1 | refine Kept.alloc ?_ _ | refine Kept.drew ?_ | refine Kept.setCell ?_ (by simp) _)
  · subst k
    go_enter Tryz.func184, Tryz.ntmps184
    go_wp2_with (first | (go_at_call 214; refine (parts_any _ _ _).mono ?_; rintro e w' ⟨rfl, rfl⟩) | (go_at_call 213; refine (moved2_any (w.heap.size + 1 + 1 + 1) hA (-128) (by omega) (by omega) _ (by simp) (by go_simp) (by go_simp)).mono ?_; rintro e w' ⟨rfl, hk⟩; have hk1 : Kept w.heap.size w w' := Kept.step (by repeat (first | exact Kept.refl _ | refine Kept.alloc ?_ _)) hk; obtain ⟨hc, hf, hl, hm, hn⟩ := bcell hk))
    refine bodyPost_ret (v := bitsV (shiftZ A (-128))) (by simp [results, Tryz.results184, go_sem, hc]) rfl ⟨by rw [right_far2 (n := 128) hA.w (by omega)], ?_⟩
    refine Kept.below ?_; repeat (first | exact hk1 | refine Kept.alloc ?_ _ | refine Kept.drew ?_ | refine Kept.setCell ?_ (by simp) _)
  · obtain ⟨k, k2⟩ := k
    go_enter Tryz.func184, Tryz.ntmps184
    go_wp2_with (first | (go_at_call 214; refine (parts_any _ _ _).mono ?_; rintro e w' ⟨rfl, rfl⟩) | (go_at_call 213; refine (moved2_any (w.heap.size + 1 + 1 + 1) hA (-n) (by omega) (by omega) _ (by simp) (by go_simp) (by go_simp)).mono ?_; rintro e w' ⟨rfl, hk⟩; have hk1 : Kept w.heap.size w w' := Kept.step (by repeat (first | exact Kept.refl _ | refine Kept.alloc ?_ _)) hk; obtain ⟨hc, hf, hl, hm, hn⟩ := bcell hk))
    refine bodyPost_ret (v := bitsV (shiftZ A (-n))) (by simp [results, Tryz.results184, go_sem, hc]) rfl ⟨by rw [right_down (n := n) (by omega)], ?_⟩
    refine Kept.below ?_; repeat (first | exact hk1 | refine Kept.alloc ?_ _ | refine Kept.drew ?_ | refine Kept.setCell ?_ (by simp) _)
  · subst k
    go_enter Tryz.func184, Tryz.ntmps184
    go_wp2_with (first | (go_at_call 214; refine (parts_any _ _ _).mono ?_; rintro e w' ⟨rfl, rfl⟩) | (go_at_call 213; refine (moved2_any (w.heap.size + 1 + 1 + 1) hA 0 (by omega) (by omega) _ (by simp) (by go_simp) (by go_simp)).mono ?_; rintro e w' ⟨rfl, hk⟩; have hk1 : Kept w.heap.size w w' := Kept.step (by repeat (first | exact Kept.refl _ | refine Kept.alloc ?_ _)) hk; obtain ⟨hc, hf, hl, hm, hn⟩ := bcell hk))
    refine bodyPost_ret (v := bitsV (shiftZ A 0)) (by simp [results, Tryz.results184, go_sem, hc]) rfl ⟨by rw [right_no (n := 0) (by omega)], ?_⟩
    refine Kept.below ?_; repeat (first | exact hk1 | refine Kept.alloc ?_ _ | refine Kept.drew ?_ | refine Kept.setCell ?_ (by simp) _)
  · go_enter Tryz.func184, Tryz.ntmps184
    go_wp2_with (first | (go_at_call 214; refine (parts_any _ _ _).mono ?_; rintro e w' ⟨rfl, rfl⟩) | (go_at_call 213; refine (moved2_any (w.heap.size + 1 + 1 + 1) hA 0 (by omega) (by omega) _ (by simp) (by go_simp) (by go_simp)).mono ?_; rintro e w' ⟨rfl, hk⟩; have hk1 : Kept w.heap.size w w' := Kept.step (by repeat (first | exact Kept.refl _ | refine Kept.alloc ?_ _)) hk; obtain ⟨hc, hf, hl, hm, hn⟩ := bcell hk))
    refine bodyPost_ret (v := bitsV (shiftZ A 0)) (by simp [results, Tryz.results184, go_sem, hc]) rfl ⟨by rw [right_no (n := n) (by omega)], ?_⟩
    refine Kept.below ?_; repeat (first | exact hk1 | refine Kept.alloc ?_ _ | refine Kept.drew ?_ | refine Kept.setCell ?_ (by simp) _)

end Go.Proofs.YtpfoifflfgiaoaaGreatDoor
namespace Go.Proofs.YtpfoifflfgiaoaaGreatDoor
open Go.RowKit

/-- its lowest bit made 1 -/
def oddN (A : Nat) : Nat := A / 2 * 2 + 1
/-- shifted down, and jammed -/
def jamN (A : Nat) (n : Int) : Nat := if lostB A n = true then oddN (rightN A n) else rightN A n
theorem odd_or (a : Nat) : a ||| 1 = oddN a := by
  unfold oddN
  apply Nat.eq_of_testBit_eq
  intro i
  rw [Nat.testBit_or]
  cases i with
  | zero => simp [Nat.testBit_zero]
  | succ i =>
    rw [Nat.testBit_succ, Nat.testBit_succ, Nat.testBit_succ, show (1 : Nat) / 2 = 0 from rfl, Nat.zero_testBit, Bool.or_false]
    congr 1; omega
theorem or_one {x : Int} (hx : U64 x) : bits .or .u64 x 1 = ((oddN x.toNat : Nat) : Int) := by
  rw [or_u64 hx ⟨by omega, by omega⟩]
  show ((x.toNat ||| 1 : Nat) : Int) = _
  rw [odd_or]
theorem odd_limb0 (A : Nat) : bits .or .u64 (limb 0 A) 1 = limb 0 (oddN A) := by
  rw [or_one (limb_u64 _ _)]; unfold oddN limb
  rw [Nat.mul_zero, Nat.pow_zero, Nat.div_one, Nat.div_one, Int.toNat_natCast]
  have e : A % 2 ^ 64 / 2 * 2 + 1 = (A / 2 * 2 + 1) % 2 ^ 64 := by omega
  rw [e]
theorem odd_half (A : Nat) : oddN A / 2 = A / 2 := by unfold oddN; omega
theorem limb_half (A j : Nat) : limb (j + 1) A = ((A / 2 / 2 ^ (63 + 64 * j) % 2 ^ 64 : Nat) : Int) := by
  unfold limb
  rw [Nat.div_div_eq_div_mul, ← Nat.pow_succ', show (63 + 64 * j).succ = 64 * (j + 1) by omega]
theorem odd_limb (A : Nat) (i : Nat) (hi : 0 < i) : limb i A = limb i (oddN A) := by
  obtain ⟨j, rfl⟩ : ∃ j, i = j + 1 := ⟨i - 1, by omega⟩
  rw [limb_half, limb_half, odd_half]
theorem jam_yes {A : Nat} {n : Int} (h : lostB A n = true) : jamN A n = oddN (rightN A n) := if_pos h
theorem jam_no {A : Nat} {n : Int} (h : lostB A n = false) : jamN A n = rightN A n := if_neg (by rw [h]; decide)

set_option maxRecDepth 100000 in
set_option maxHeartbeats 1000000 in
theorem WideJam_yes {A : Nat} (hA : W256 A) (n : Int) (n0 : -9223372036854775808 ≤ n) (n1 : n ≤ 9223372036854775807) (hl : lostB A n = true) (w : World) :
    Calls Tryz.prog 164 #[wideV A, .int .i64 n] w fun e w' => e = .returned (.agg #[.int .u64 (bits .or .u64 (limb 0 (rightN A n)) 1), .int .u64 (limb 1 (rightN A n)), .int .u64 (limb 2 (rightN A n)), .int .u64 (limb 3 (rightN A n))]) ∧ Below w.heap.size w w' := by
  have hk := Kept.refl w
  have hE := Known.nil w
  go_enter Tryz.func164, Tryz.ntmps164
  go_wp2_with (first
    | (go_at_call 99; refine (WideRight_at (IsWide.of hA) n n0 n1 _).mono ?_; rintro e w' ⟨rfl, hb⟩; replace hE : Known _ w' := Known.step hE (by refine Kept.below ?_; repeat (first | exact Kept.refl _ | refine Kept.alloc ?_ _ | refine Kept.drew ?_ | refine Kept.setCell ?_ (by simp) _)) hb; have hR := hE; (simp only [Known, and_true] at hR); replace hk : Kept w.heap.size w w' := Kept.step (by repeat (first | exact hk | refine Kept.alloc ?_ _ | refine Kept.drew ?_ | refine Kept.setCell ?_ (by simp; omega) _)) hb; have hz := hb.size; (try simp only [World.size_alloc] at hz); clear hb)
    | (go_at_call 234; refine (Lost_at (IsWide.of hA) n n0 n1 _).mono ?_; rintro e w' ⟨rfl, hb⟩; replace hE : Known _ w' := Known.step hE (by refine Kept.below ?_; repeat (first | exact Kept.refl _ | refine Kept.alloc ?_ _ | refine Kept.drew ?_ | refine Kept.setCell ?_ (by simp) _)) hb; have hR := hE; (simp only [Known, and_true] at hR); replace hk : Kept w.heap.size w w' := Kept.step (by repeat (first | exact hk | refine Kept.alloc ?_ _ | refine Kept.drew ?_ | refine Kept.setCell ?_ (by simp; omega) _)) hb; have hz := hb.size; (try simp only [World.size_alloc] at hz); clear hb))
  refine bodyPost_ret (v := .agg #[.int .u64 (bits .or .u64 (limb 0 (rightN A n)) 1), .int .u64 (limb 1 (rightN A n)), .int .u64 (limb 2 (rightN A n)), .int .u64 (limb 3 (rightN A n))]) (by simp [results, Tryz.results164, go_sem, hR]) rfl ⟨rfl, (by refine Kept.below ?_; repeat (first | exact Kept.refl _ | exact hk | refine Kept.alloc ?_ _ | refine Kept.drew ?_ | refine Kept.setCell ?_ (by simp; try omega) _))⟩

set_option maxRecDepth 100000 in
set_option maxHeartbeats 1000000 in
theorem WideJam_no {A : Nat} (hA : W256 A) (n : Int) (n0 : -9223372036854775808 ≤ n) (n1 : n ≤ 9223372036854775807) (hl : lostB A n = false) (w : World) :
    Calls Tryz.prog 164 #[wideV A, .int .i64 n] w fun e w' => e = .returned (wideV (rightN A n)) ∧ Below w.heap.size w w' := by
  have hk := Kept.refl w
  have hE := Known.nil w
  go_enter Tryz.func164, Tryz.ntmps164
  go_wp2_with (first
    | (go_at_call 99; refine (WideRight_at (IsWide.of hA) n n0 n1 _).mono ?_; rintro e w' ⟨rfl, hb⟩; replace hE : Known _ w' := Known.step hE (by refine Kept.below ?_; repeat (first | exact Kept.refl _ | refine Kept.alloc ?_ _ | refine Kept.drew ?_ | refine Kept.setCell ?_ (by simp) _)) hb; have hR := hE; (simp only [Known, and_true] at hR); replace hk : Kept w.heap.size w w' := Kept.step (by repeat (first | exact hk | refine Kept.alloc ?_ _ | refine Kept.drew ?_ | refine Kept.setCell ?_ (by simp; omega) _)) hb; have hz := hb.size; (try simp only [World.size_alloc] at hz); clear hb)
    | (go_at_call 234; refine (Lost_at (IsWide.of hA) n n0 n1 _).mono ?_; rintro e w' ⟨rfl, hb⟩; replace hE : Known _ w' := Known.step hE (by refine Kept.below ?_; repeat (first | exact Kept.refl _ | refine Kept.alloc ?_ _ | refine Kept.drew ?_ | refine Kept.setCell ?_ (by simp) _)) hb; have hR := hE; (simp only [Known, and_true] at hR); replace hk : Kept w.heap.size w w' := Kept.step (by repeat (first | exact hk | refine Kept.alloc ?_ _ | refine Kept.drew ?_ | refine Kept.setCell ?_ (by simp; omega) _)) hb; have hz := hb.size; (try simp only [World.size_alloc] at hz); clear hb))
  refine bodyPost_ret (v := wideV (rightN A n)) (by simp [results, Tryz.results164, go_sem, hR]) rfl ⟨rfl, (by refine Kept.below ?_; repeat (first | exact Kept.refl _ | exact hk | refine Kept.alloc ?_ _ | refine Kept.drew ?_ | refine Kept.setCell ?_ (by simp; try omega) _))⟩

theorem WideJam_at {a0 a1 a2 a3 : Int} {A : Nat} (hA : IsWide a0 a1 a2 a3 A) (n : Int) (n0 : -9223372036854775808 ≤ n) (n1 : n ≤ 9223372036854775807) (w : World) :
    Calls Tryz.prog 164 #[.agg #[.int .u64 a0, .int .u64 a1, .int .u64 a2, .int .u64 a3], .int .i64 n] w fun e w' => e = .returned (wideV (jamN A n)) ∧ Below w.heap.size w w' := by
  rw [hA.e0, hA.e1, hA.e2, hA.e3]
  cases h : lostB A n with
  | false => rw [jam_no h]; exact WideJam_no hA.w n n0 n1 h w
  | true =>
    rw [jam_yes h]
    refine (WideJam_yes hA.w n n0 n1 h w).mono fun e w' ⟨he, hk⟩ => ⟨?_, hk⟩
    rw [he, odd_limb0, odd_limb _ 1 (by omega), odd_limb _ 2 (by omega), odd_limb _ 3 (by omega)]
end Go.Proofs.YtpfoifflfgiaoaaGreatDoor
namespace Go.Proofs.YtpfoifflfgiaoaaGreatDoor

/-! how far at most: for the examples -/
end Go.Proofs.YtpfoifflfgiaoaaGreatDoor
namespace Go.Proofs.YtpfoifflfgiaoaaGreatDoor
open Go.RowKit Go.Maps

theorem setObj_last {P : Program} (w : World) (es : Array MapEntry) (c : Nat) (o' : Obj) : (setObj w.heap.size o').run P (w.alloc (.map es c)) = .ok () (w.alloc o') := by
  have h1 : w.heap.size < (w.heap.push (Obj.map es c)).size := by simp
  have h2 : (w.heap.push (Obj.map es c)).setIfInBounds w.heap.size o' = w.heap.push o' := by
    apply Array.ext
    · simp
    · intro i h3 h4
      simp at h4
      rw [Array.getElem_setIfInBounds (by simpa using h3)]
      by_cases e : w.heap.size = i
      · subst e; simp
      · rw [if_neg e, Array.getElem_push, Array.getElem_push, dif_pos (by omega), dif_pos (by omega)]
  simp [setObj, Sem.run, World.alloc, h1, h2, -World.alloc_eq]

theorem run_checkKey_int {P : Program} {k : TypeId} {q : IntKind} (hk : P.underlying k = some (.int q)) (w : World) (em : Bool) (x : Int) :
    (Instr.checkKey em 10000 k (.int q x)).run P w = .ok () w := by
  show (Instr.checkKey em (9999 + 1) k (.int q x)).run P w = .ok () w
  rw [Instr.checkKey]
  simp [run_underlying hk, Result.andThen]

theorem run_insert_last {P : Program} {t k e : TypeId} {q : IntKind} (ht : P.underlying t = some (.map k e)) (hk : P.underlying k = some (.int q))
    (w : World) (es : Array MapEntry) (clock : Nat) (x : Int) (v : Value) (hf : Instr.findNow (.int q) (.int q x) es.toList 0 = some none) :
    (Instr.mapUpdate t (.map (some w.heap.size)) (.int q x) v).run P (w.alloc (.map es clock)) = .ok () (w.alloc (.map (es.push ⟨.int q x, v, clock⟩) (clock + 1))) := by
  have hb : (w.alloc (.map es clock)).heap[w.heap.size]? = some (.map es clock) := (MapKept.heap_alloc w _).1
  simp [Instr.mapUpdate, run_underlying ht, MapKept.run_getObj_map hb, run_checkKey_int hk, run_underlying hk, Instr.findKey, hf, setObj_last, Result.andThen]

theorem run_lookup_none {P : Program} {t k e : TypeId} {q : IntKind} (ht : P.underlying t = some (.map k e)) (hk : P.underlying k = some (.int q)) {z : Value}
    (hz : ∀ w : World, (zeroValue e).run P w = .ok z w) (w : World) (b : Nat) (es : Array MapEntry) (clock : Nat) (hb : w.heap[b]? = some (.map es clock)) (x : Int) (hf : Instr.findNow (.int q) (.int q x) es.toList 0 = some none) :
    (Instr.lookup t (.map (some b)) (.int q x) true).run P w = .ok (.tuple #[z, .bool false]) w := by
  simp [Instr.lookup, run_underlying ht, MapKept.run_getObj_map hb, run_checkKey_int hk, run_underlying hk, Instr.findKey, hf, hz, Result.andThen]

theorem run_lookup_some {P : Program} {t k e : TypeId} {q : IntKind} (ht : P.underlying t = some (.map k e)) (hk : P.underlying k = some (.int q))
    (w : World) (b : Nat) (es : Array MapEntry) (clock : Nat) (hb : w.heap[b]? = some (.map es clock)) (x : Int) (i : Nat) (v : Value) (hf : Instr.findNow (.int q) (.int q x) es.toList 0 = some (some (i, v))) :
    (Instr.lookup t (.map (some b)) (.int q x) true).run P w = .ok (.tuple #[v, .bool true]) w := by
  simp [Instr.lookup, run_underlying ht, MapKept.run_getObj_map hb, run_checkKey_int hk, run_underlying hk, Instr.findKey, hf, Result.andThen]
end Go.Proofs.YtpfoifflfgiaoaaGreatDoor
namespace Go.Proofs.YtpfoifflfgiaoaaGreatDoor
open Go.RowKit Go.Maps

/-- the answer of Next -/
def nextB (m : Int) (neg odd : Bool) (r : Int) : Bool :=
  decide (1 ≤ r ∧ r ≤ 3) && ((decide (m = 0) && (decide (r = 3) || (decide (r = 2) && odd))) || (decide (m = 1) && decide (2 ≤ r)) || (decide (m = 2) && !neg) || (decide (m = 3) && neg))

abbrev ruleF (k : Nat) : Value := .func (.func k) #[] #[]
abbrev rulesTab : Array MapEntry := #[⟨.int .u8 0, ruleF 279, 0⟩, ⟨.int .u8 1, ruleF 280, 1⟩, ⟨.int .u8 2, ruleF 281, 2⟩, ⟨.int .u8 3, ruleF 282, 3⟩, ⟨.int .u8 4, ruleF 283, 4⟩]

set_option maxHeartbeats 400000 in
theorem rules_any (w : World) :
    Calls Tryz.prog 268 #[] w fun e w' => e = .returned (.map (some w.heap.size)) ∧ w' = w.alloc (.map rulesTab 5) := by
  have hmm := @run_makeMap Tryz.prog
  have hi := @run_insert_last Tryz.prog _ _ _ _ Tryz.underlying349 Tryz.underlying49 w
  have h0 := hi #[] 0 0 (ruleF 279) rfl
  have h1 := hi #[⟨.int .u8 0, ruleF 279, 0⟩] 1 1 (ruleF 280) rfl
  have h2 := hi #[⟨.int .u8 0, ruleF 279, 0⟩, ⟨.int .u8 1, ruleF 280, 1⟩] 2 2 (ruleF 281) rfl
  have h3 := hi #[⟨.int .u8 0, ruleF 279, 0⟩, ⟨.int .u8 1, ruleF 280, 1⟩, ⟨.int .u8 2, ruleF 281, 2⟩] 3 3 (ruleF 282) rfl
  have h4 := hi #[⟨.int .u8 0, ruleF 279, 0⟩, ⟨.int .u8 1, ruleF 280, 1⟩, ⟨.int .u8 2, ruleF 281, 2⟩, ⟨.int .u8 3, ruleF 282, 3⟩] 4 4 (ruleF 283) rfl
  clear hi
  go_enter Tryz.func268, Tryz.ntmps268
  go_wp2
  go_ret
  exact ⟨rfl, rfl⟩

theorem Known_any (m : Int) (w : World) :
    Calls Tryz.prog 23 #[.int .u8 m] w fun e w' => e = .returned (.bool (decide (m ≤ 4))) ∧ w = w' := by
  go_enter Tryz.func23, Tryz.ntmps23
  go_wp2
  go_ret
  exact ⟨rfl, rfl⟩

theorem zeroFn (w : World) : (zeroValue 347).run Tryz.prog w = .ok .nilFunc w := by kernel_rfl

theorem look_at (w : World) (m : Int) (i : Nat) (v : Value) (hf : Instr.findNow (.int .u8) (.int .u8 m) rulesTab.toList 0 = some (some (i, v))) :
    (Instr.lookup 349 (.map (some w.heap.size)) (.int .u8 m) true).run Tryz.prog (w.alloc (.map rulesTab 5)) = .ok (.tuple #[v, .bool true]) (w.alloc (.map rulesTab 5)) :=
  run_lookup_some Tryz.underlying349 Tryz.underlying49 _ _ rulesTab 5 (MapKept.heap_alloc w _).1 m i v hf
theorem look_no (w : World) (m : Int) (hm : 5 ≤ m) :
    (Instr.lookup 349 (.map (some w.heap.size)) (.int .u8 m) true).run Tryz.prog (w.alloc (.map rulesTab 5)) = .ok (.tuple #[.nilFunc, .bool false]) (w.alloc (.map rulesTab 5)) :=
  run_lookup_none Tryz.underlying349 Tryz.underlying49 zeroFn _ _ rulesTab 5 (MapKept.heap_alloc w _).1 m (by
    have e0 : (m == 0) = false := beq_eq_false_iff_ne.2 (by omega)
    have e1 : (m == 1) = false := beq_eq_false_iff_ne.2 (by omega)
    have e2 : (m == 2) = false := beq_eq_false_iff_ne.2 (by omega)
    have e3 : (m == 3) = false := beq_eq_false_iff_ne.2 (by omega)
    have e4 : (m == 4) = false := beq_eq_false_iff_ne.2 (by omega)
    simp [rulesTab, Instr.findNow, Instr.sameNow, e0, e1, e2, e3, e4])

theorem rule1_any (a odd : Bool) (r : Int) (w : World) :
    Calls Tryz.prog 279 #[.bool a, .bool odd, .int .u8 r] w fun e w' => e = .returned (.bool (decide (r = 3) || (decide (r = 2) && odd))) ∧ w = w' := by
  go_enter Tryz.func279, Tryz.ntmps279
  go_wp2
  all_goals go_ret
  all_goals exact ⟨ret_bool (by cases odd <;> simp_all), rfl⟩
theorem rule2_any (a b : Bool) (r : Int) (w : World) :
    Calls Tryz.prog 280 #[.bool a, .bool b, .int .u8 r] w fun e w' => e = .returned (.bool (decide (2 ≤ r))) ∧ w = w' := by
  go_enter Tryz.func280, Tryz.ntmps280
  go_wp2
  go_ret
  exact ⟨rfl, rfl⟩
theorem rule3_any (a b : Bool) (r : Int) (w : World) :
    Calls Tryz.prog 281 #[.bool a, .bool b, .int .u8 r] w fun e w' => e = .returned (.bool (!a)) ∧ w = w' := by
  go_enter Tryz.func281, Tryz.ntmps281
  go_wp2
  go_ret
  exact ⟨rfl, rfl⟩
theorem rule4_any (a b : Bool) (r : Int) (w : World) :
    Calls Tryz.prog 282 #[.bool a, .bool b, .int .u8 r] w fun e w' => e = .returned (.bool a) ∧ w = w' := by
  go_enter Tryz.func282, Tryz.ntmps282
  go_wp2
  go_ret
  exact ⟨rfl, rfl⟩
theorem rule5_any (a b : Bool) (r : Int) (w : World) :
    Calls Tryz.prog 283 #[.bool a, .bool b, .int .u8 r] w fun e w' => e = .returned (.bool false) ∧ w = w' := by
  go_enter Tryz.func283, Tryz.ntmps283
  go_wp2
  go_ret
  exact ⟨rfl, rfl⟩

set_option maxRecDepth 100000 in
set_option maxHeartbeats 400000 in
theorem Next_0 (neg odd : Bool) (r : Int) (h0 : 0 ≤ r) (w : World) :
    Calls Tryz.prog 229 #[.int .u8 0, .bool neg, .bool odd, .int .u8 r] w fun e w' => e = .returned (.bool (nextB 0 neg odd r)) ∧ Below w.heap.size w w' := by
  have hl := look_at w 0 0 (ruleF 279) rfl
  go_enter Tryz.func229, Tryz.ntmps229
  go_wp2_with (first | (go_at_call 268; refine (rules_any _).mono ?_; rintro e w' ⟨rfl, rfl⟩) | (go_at_call 279; refine (rule1_any _ _ _ _).mono ?_; rintro e w' ⟨rfl, rfl⟩))
  all_goals go_ret
  all_goals refine ⟨ret_bool ?_, (Below.refl _ _).alloc (Nat.le_refl _) _⟩
  all_goals simp [nextB]
  all_goals (try omega)
set_option maxRecDepth 100000 in
set_option maxHeartbeats 400000 in
theorem Next_1 (neg odd : Bool) (r : Int) (h0 : 0 ≤ r) (w : World) :
    Calls Tryz.prog 229 #[.int .u8 1, .bool neg, .bool odd, .int .u8 r] w fun e w' => e = .returned (.bool (nextB 1 neg odd r)) ∧ Below w.heap.size w w' := by
  have hl := look_at w 1 1 (ruleF 280) rfl
  go_enter Tryz.func229, Tryz.ntmps229
  go_wp2_with (first | (go_at_call 268; refine (rules_any _).mono ?_; rintro e w' ⟨rfl, rfl⟩) | (go_at_call 280; refine (rule2_any _ _ _ _).mono ?_; rintro e w' ⟨rfl, rfl⟩))
  all_goals go_ret
  all_goals refine ⟨ret_bool ?_, (Below.refl _ _).alloc (Nat.le_refl _) _⟩
  all_goals simp [nextB]
  all_goals (try omega)
set_option maxRecDepth 100000 in
set_option maxHeartbeats 400000 in
theorem Next_2 (neg odd : Bool) (r : Int) (h0 : 0 ≤ r) (w : World) :
    Calls Tryz.prog 229 #[.int .u8 2, .bool neg, .bool odd, .int .u8 r] w fun e w' => e = .returned (.bool (nextB 2 neg odd r)) ∧ Below w.heap.size w w' := by
  have hl := look_at w 2 2 (ruleF 281) rfl
  go_enter Tryz.func229, Tryz.ntmps229
  go_wp2_with (first | (go_at_call 268; refine (rules_any _).mono ?_; rintro e w' ⟨rfl, rfl⟩) | (go_at_call 281; refine (rule3_any _ _ _ _).mono ?_; rintro e w' ⟨rfl, rfl⟩))
  all_goals go_ret
  all_goals refine ⟨ret_bool ?_, (Below.refl _ _).alloc (Nat.le_refl _) _⟩
  all_goals simp [nextB]
  all_goals (try omega)
set_option maxRecDepth 100000 in
set_option maxHeartbeats 400000 in
theorem Next_3 (neg odd : Bool) (r : Int) (h0 : 0 ≤ r) (w : World) :
    Calls Tryz.prog 229 #[.int .u8 3, .bool neg, .bool odd, .int .u8 r] w fun e w' => e = .returned (.bool (nextB 3 neg odd r)) ∧ Below w.heap.size w w' := by
  have hl := look_at w 3 3 (ruleF 282) rfl
  go_enter Tryz.func229, Tryz.ntmps229
  go_wp2_with (first | (go_at_call 268; refine (rules_any _).mono ?_; rintro e w' ⟨rfl, rfl⟩) | (go_at_call 282; refine (rule4_any _ _ _ _).mono ?_; rintro e w' ⟨rfl, rfl⟩))
  all_goals go_ret
  all_goals refine ⟨ret_bool ?_, (Below.refl _ _).alloc (Nat.le_refl _) _⟩
  all_goals simp [nextB]
  all_goals (try omega)
set_option maxRecDepth 100000 in
set_option maxHeartbeats 400000 in
theorem Next_4 (neg odd : Bool) (r : Int) (h0 : 0 ≤ r) (w : World) :
    Calls Tryz.prog 229 #[.int .u8 4, .bool neg, .bool odd, .int .u8 r] w fun e w' => e = .returned (.bool (nextB 4 neg odd r)) ∧ Below w.heap.size w w' := by
  have hl := look_at w 4 4 (ruleF 283) rfl
  go_enter Tryz.func229, Tryz.ntmps229
  go_wp2_with (first | (go_at_call 268; refine (rules_any _).mono ?_; rintro e w' ⟨rfl, rfl⟩) | (go_at_call 283; refine (rule5_any _ _ _ _).mono ?_; rintro e w' ⟨rfl, rfl⟩))
  all_goals go_ret
  all_goals refine ⟨ret_bool ?_, (Below.refl _ _).alloc (Nat.le_refl _) _⟩
  all_goals simp [nextB]
  all_goals (try omega)
set_option maxRecDepth 100000 in
set_option maxHeartbeats 400000 in
theorem Next_5 (m : Int) (hm : 5 ≤ m) (neg odd : Bool) (r : Int) (h0 : 0 ≤ r) (w : World) :
    Calls Tryz.prog 229 #[.int .u8 m, .bool neg, .bool odd, .int .u8 r] w fun e w' => e = .returned (.bool (nextB m neg odd r)) ∧ Below w.heap.size w w' := by
  have hl := look_no w m hm
  go_enter Tryz.func229, Tryz.ntmps229
  go_wp2_with (first | (go_at_call 268; refine (rules_any _).mono ?_; rintro e w' ⟨rfl, rfl⟩))
  all_goals go_ret
  all_goals refine ⟨ret_bool ?_, (Below.refl _ _).alloc (Nat.le_refl _) _⟩
  all_goals simp [nextB]
  all_goals (try omega)

theorem Next_any (m : Int) (neg odd : Bool) (r : Int) (hm : 0 ≤ m) (h0 : 0 ≤ r) (w : World) :
    Calls Tryz.prog 229 #[.int .u8 m, .bool neg, .bool odd, .int .u8 r] w fun e w' => e = .returned (.bool (nextB m neg odd r)) ∧ Below w.heap.size w w' := by
  by_cases e5 : 5 ≤ m
  · exact Next_5 m e5 neg odd r h0 w
  · have : m = 0 ∨ m = 1 ∨ m = 2 ∨ m = 3 ∨ m = 4 := by omega
    rcases this with rfl | rfl | rfl | rfl | rfl
    · exact Next_0 neg odd r h0 w
    · exact Next_1 neg odd r h0 w
    · exact Next_2 neg odd r h0 w
    · exact Next_3 neg odd r h0 w
    · exact Next_4 neg odd r h0 w

def ofI (half below : Bool) : Int := if half && below then 3 else if half then 2 else if below then 1 else 0
theorem Of_any (a b : Bool) (w : World) :
    Calls Tryz.prog 267 #[.bool a, .bool b] w fun e w' => e = .returned (.int .u8 (ofI a b)) ∧ w = w' := by
  cases a <;> cases b <;>
  · go_enter Tryz.func267, Tryz.ntmps267
    go_wp2
    go_ret
    exact ⟨rfl, rfl⟩
theorem Infinite_any (m : Int) (neg : Bool) (hm : 0 ≤ m) (w : World) :
    Calls Tryz.prog 233 #[.int .u8 m, .bool neg] w fun e w' => e = .returned (.bool (nextB m neg true 3)) ∧ Below w.heap.size w w' := by
  go_enter Tryz.func233, Tryz.ntmps233
  go_wp2_with (go_at_call 229; refine (Next_any _ _ _ _ hm (by omega) _).mono ?_; rintro e w' ⟨rfl, hb⟩)
  go_ret
  exact ⟨rfl, hb⟩
end Go.Proofs.YtpfoifflfgiaoaaGreatDoor
namespace Go.Proofs.YtpfoifflfgiaoaaGreatDoor

/-- what is beyond the bits that are kept: 0 none, 1 less than a half, 2 a half, 3 more -/
def restI (W : Nat) (k : Int) : Int := ofI (bitZ W (255 - k)) (lostB W (255 - k))
def floorN (W : Nat) (k : Int) : Nat := rightN W (256 - k)
def oddB (A : Nat) : Bool := decide (A % 2 = 1)
def upB (W : Nat) (k m : Int) (neg : Bool) : Bool := nextB m neg (oddB (floorN W k)) (restI W k)
def cutN (W : Nat) (k m : Int) (neg : Bool) : Nat := floorN W k + (if upB W k m neg = true then 1 else 0)
def moreB (W : Nat) (k : Int) : Bool := decide (restI W k ≠ 0)

theorem ofI_range (a b : Bool) : 0 ≤ ofI a b ∧ ofI a b ≤ 3 := by cases a <;> cases b <;> decide
theorem restI_range (W : Nat) (k : Int) : 0 ≤ restI W k ∧ restI W k ≤ 3 := ofI_range _ _

theorem floor_lt {W : Nat} (hW : W256 W) {k : Int} (h0 : 0 ≤ k) (h1 : k ≤ 127) : floorN W k < 2 ^ 127 := by
  have := hW.lt
  unfold floorN rightN
  rw [Nat.div_lt_iff_lt_mul (Nat.two_pow_pos _)]
  have h2 : 2 ^ 129 ≤ 2 ^ (256 - k).toNat := Nat.pow_le_pow_right (by omega) (by omega)
  calc W < 2 ^ 127 * 2 ^ 129 := by omega
    _ ≤ 2 ^ 127 * 2 ^ (256 - k).toNat := Nat.mul_le_mul_left _ h2
theorem floor_w {W : Nat} (hW : W256 W) {k : Int} (h0 : 0 ≤ k) (h1 : k ≤ 127) : W128 (floorN W k) := ⟨by have := floor_lt hW h0 h1; omega⟩
theorem add_one128 {A : Nat} (h : A < 2 ^ 127) : add128 A 1 = A + 1 := by unfold add128; omega
theorem cut_up {W : Nat} {k m : Int} {neg : Bool} (h : upB W k m neg = true) : cutN W k m neg = floorN W k + 1 := by unfold cutN; rw [if_pos h]
theorem cut_no {W : Nat} {k m : Int} {neg : Bool} (h : upB W k m neg = false) : cutN W k m neg = floorN W k := by unfold cutN; rw [if_neg (by rw [h]; decide)]; rfl
theorem lo_small {A : Nat} (h : W128 A) : loN A = A := by unfold loN; exact Nat.mod_eq_of_lt h.lt

/-! nearness -/
/-! order -/
/-! jammed ahead -/
/-! the other sign -/
end Go.Proofs.YtpfoifflfgiaoaaGreatDoor
