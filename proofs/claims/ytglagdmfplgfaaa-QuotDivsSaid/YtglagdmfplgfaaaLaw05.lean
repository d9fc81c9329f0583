/- package quot's contracts at what the laws ask; the laws' examples. -/
import Derived.Test.YtglagdmfplgfaaaQuotD
import Derived.Test.YtglagdmfplgfaaaQuotM
import Derived.Test.YtglagdmfplgfaaaQuotS
import Derived.Test.YtglagdmfplgfaaaRegionG
import Derived.Test.YtglagdmfplgfaaaWideLit
import Derived.Test.YtglagdmfplgfaaaWordLit
set_option linter.unusedVariables false
set_option linter.unusedSimpArgs false
namespace Go.Proofs.Ytglagdmfplgfaaa
open Go.RowKit

theorem Div_at {a0 a1 a2 a3 d1 d0 : Int} {A D : Nat} (hA : IsWide a0 a1 a2 a3 A) (hD : IsBits d1 d0 D) (h0 : 0 < D) (w : World) :
    Calls Try.prog 34 #[.agg #[.int .u64 a0, .int .u64 a1, .int .u64 a2, .int .u64 a3], .agg #[.int .u64 d1, .int .u64 d0]] w fun e w' => e = .returned (.tuple #[wideV (divN A D), bitsV (modN A D), .bool true]) ∧ Below w.heap.size w w' := by
  rw [hA.e0, hA.e1, hA.e2, hA.e3, hD.hi, hD.lo]; exact Div_any hA.w hD.w h0 w
theorem Div_zero_at {a0 a1 a2 a3 d1 d0 : Int} {A D : Nat} (hA : IsWide a0 a1 a2 a3 A) (hD : IsBits d1 d0 D) (h0 : D = 0) (w : World) :
    Calls Try.prog 34 #[.agg #[.int .u64 a0, .int .u64 a1, .int .u64 a2, .int .u64 a3], .agg #[.int .u64 d1, .int .u64 d0]] w fun e w' => e = .returned (.tuple #[.agg #[.int .u64 0, .int .u64 0, .int .u64 0, .int .u64 0], .agg #[.int .u64 0, .int .u64 0], .bool false]) ∧ Below w.heap.size w w' := by
  rw [hA.e0, hA.e1, hA.e2, hA.e3, hD.hi, hD.lo]; exact Div_zero hA.w hD.w h0 w
theorem Mod_at {r1 r0 d1 d0 : Int} {R D : Nat} (hR : IsBits r1 r0 R) (hD : IsBits d1 d0 D) (h : R < D) (N : Nat) {z : Int} (hz : z = (N : Int)) (hN : N ≤ 40000) (w : World) :
    Calls Try.prog 38 #[.agg #[.int .u64 r1, .int .u64 r0], .int .i64 z, .agg #[.int .u64 d1, .int .u64 d0]] w fun e w' => e = .returned (.tuple #[bitsV (farN R D N), .bool (oddF R D N), .bool true]) ∧ Below w.heap.size w w' := by
  rw [hR.hi, hR.lo, hD.hi, hD.lo, hz]; exact Mod_any hD.w h N hN w
theorem far_w (r : Nat) {d : Nat} (hd : W128 d) {r' : Nat} (h : r' < d) (N : Nat) : W128 (farN r d N) := ⟨Nat.lt_trans (far_lt r (by omega) N) hd.lt⟩
theorem Mod_no1_at {r1 r0 d1 d0 : Int} {R D : Nat} (hR : IsBits r1 r0 R) (hD : IsBits d1 d0 D) (z : Int) (h : D ≤ R) (w : World) :
    Calls Try.prog 38 #[.agg #[.int .u64 r1, .int .u64 r0], .int .i64 z, .agg #[.int .u64 d1, .int .u64 d0]] w fun e w' => e = .returned (.tuple #[.agg #[.int .u64 0, .int .u64 0], .bool false, .bool false]) ∧ Below w.heap.size w w' := by
  rw [hR.hi, hR.lo, hD.hi, hD.lo]; exact Mod_no1 hR.w hD.w z h w
theorem Mod_no2_at {r1 r0 d1 d0 : Int} {R D : Nat} (hR : IsBits r1 r0 R) (hD : IsBits d1 d0 D) (z : Int) (h : R < D) (h2 : z < 0) (w : World) :
    Calls Try.prog 38 #[.agg #[.int .u64 r1, .int .u64 r0], .int .i64 z, .agg #[.int .u64 d1, .int .u64 d0]] w fun e w' => e = .returned (.tuple #[.agg #[.int .u64 0, .int .u64 0], .bool false, .bool false]) ∧ Below w.heap.size w w' := by
  rw [hR.hi, hR.lo, hD.hi, hD.lo]; exact Mod_no2 hR.w hD.w z h h2 w
theorem Mod_no3_at {r1 r0 d1 d0 : Int} {R D : Nat} (hR : IsBits r1 r0 R) (hD : IsBits d1 d0 D) (z : Int) (h : R < D) (h2 : ¬ z < 0) (h3 : 40000 < z) (w : World) :
    Calls Try.prog 38 #[.agg #[.int .u64 r1, .int .u64 r0], .int .i64 z, .agg #[.int .u64 d1, .int .u64 d0]] w fun e w' => e = .returned (.tuple #[.agg #[.int .u64 0, .int .u64 0], .bool false, .bool false]) ∧ Below w.heap.size w w' := by
  rw [hR.hi, hR.lo, hD.hi, hD.lo]; exact Mod_no3 hR.w hD.w z h h2 h3 w
theorem Step_102_b (w : World) : Calls Try.prog 36 #[.int .u64 1, .int .u64 0, .int .u64 2] w fun e w' => e = .returned (.tuple #[.int .u64 9223372036854775808, .int .u64 0, .bool true]) ∧ Below w.heap.size w w' :=
  (Step_102 w).mono fun _ _ ⟨he, hw⟩ => ⟨he, hw ▸ Below.refl _ _⟩

set_option maxRecDepth 100000 in
set_option maxHeartbeats 8000000 in
theorem goes05_any (w : World) :
    Calls Try.prog 37 #[] w fun e w' => e = .returned (.bool true) ∧ Below w.heap.size w w' := by
  have hk := Kept.refl w
  go_enter Try.func37, Try.ntmps37
  go_wp2_with fail
  (with_reducible refine (calls_to (V := .tuple #[.agg #[.int .u64 3, .int .u64 0, .int .u64 0, .int .u64 0], .agg #[.int .u64 0, .int .u64 1], .bool true]) (Div_at (IsWide.val (isU64_mk (by decide +kernel)) u64_zero u64_zero u64_zero) (IsBits.val u64_zero (isU64_mk (by decide +kernel))) (by decide +kernel) _) (by kernel_rfl)).mono ?_)
  rintro e w1 ⟨rfl, hb⟩
  have hk' : Kept w.heap.size w w1 := Kept.step (by repeat (first | with_reducible exact hk | with_reducible exact Kept.refl _ | with_reducible refine Kept.alloc ?_ _ | with_reducible refine Kept.drew ?_ | with_reducible refine Kept.setCell ?_ (by simp only [World.size_alloc, World.size_setCell, World.size_drew]; omega) _)) hb
  clear hk hb
  have hk := hk'
  clear hk'
  have hz_w1 := hk.size
  go_wp2_with fail
  (with_reducible refine (Step_102_b _).mono ?_)
  rintro e w2 ⟨rfl, hb⟩
  have X1' : Box w2 (w1.heap.size) #[.int .u64 3, .int .u64 0, .int .u64 0, .int .u64 0] := Box.call hb (by repeat (first | with_reducible assumption | with_reducible apply Box.set10 | with_reducible apply Box.set20 | with_reducible apply Box.set21 | with_reducible apply Box.set40 | with_reducible apply Box.set41 | with_reducible apply Box.set42 | with_reducible apply Box.set43 | with_reducible apply Box.set50 | with_reducible apply Box.set51 | with_reducible apply Box.set52 | with_reducible apply Box.set53 | with_reducible apply Box.set54 | with_reducible apply Box.drew | (with_reducible apply Box.newAt; (try simp only [World.size_alloc, World.size_setCell, World.size_drew]); done) | with_reducible apply Box.alloc | (with_reducible apply Box.other; case hne => ((try simp only [World.size_alloc, World.size_setCell, World.size_drew]); omega))))
  have X2' : Box w2 (w1.heap.size + 1) #[.int .u64 0, .int .u64 1] := Box.call hb (by repeat (first | with_reducible assumption | with_reducible apply Box.set10 | with_reducible apply Box.set20 | with_reducible apply Box.set21 | with_reducible apply Box.set40 | with_reducible apply Box.set41 | with_reducible apply Box.set42 | with_reducible apply Box.set43 | with_reducible apply Box.set50 | with_reducible apply Box.set51 | with_reducible apply Box.set52 | with_reducible apply Box.set53 | with_reducible apply Box.set54 | with_reducible apply Box.drew | (with_reducible apply Box.newAt; (try simp only [World.size_alloc, World.size_setCell, World.size_drew]); done) | with_reducible apply Box.alloc | (with_reducible apply Box.other; case hne => ((try simp only [World.size_alloc, World.size_setCell, World.size_drew]); omega))))
  have hk' : Kept w.heap.size w w2 := Kept.step (by repeat (first | with_reducible exact hk | with_reducible exact Kept.refl _ | with_reducible refine Kept.alloc ?_ _ | with_reducible refine Kept.drew ?_ | with_reducible refine Kept.setCell ?_ (by simp only [World.size_alloc, World.size_setCell, World.size_drew]; omega) _)) hb
  clear hk hb
  have X1 := X1'
  clear X1'
  have X2 := X2'
  clear X2'
  have hk := hk'
  clear hk'
  have hz_w2 := hk.size
  have X1l := X1.lt
  have X1f := X1.free
  have X1l1 : w1.heap.size < w2.heap.size + 1 := by omega
  have X1l2 : w1.heap.size < w2.heap.size + 1 + 1 := by omega
  have X1l3 : w1.heap.size < w2.heap.size + 1 + 1 + 1 := by omega
  have X10 := X1.cell 0 _ rfl
  have X11 := X1.cell 1 _ rfl
  have X12 := X1.cell 2 _ rfl
  have X13 := X1.cell 3 _ rfl
  have X2l := X2.lt
  have X2f := X2.free
  have X2l1 : w1.heap.size + 1 < w2.heap.size + 1 := by omega
  have X2l2 : w1.heap.size + 1 < w2.heap.size + 1 + 1 := by omega
  have X2l3 : w1.heap.size + 1 < w2.heap.size + 1 + 1 + 1 := by omega
  have X20 := X2.cell 0 _ rfl
  have X21 := X2.cell 1 _ rfl
  go_wp2_with fail
  (with_reducible refine (calls_to (V := .tuple #[.agg #[.int .u64 0, .int .u64 2], .bool false, .bool true]) (Mod_at (IsBits.val u64_zero (isU64_mk (by decide +kernel))) (IsBits.val u64_zero (isU64_mk (by decide +kernel))) (by decide +kernel) 3 (z := 3) (by decide +kernel) (by decide +kernel) _) (by kernel_rfl)).mono ?_)
  rintro e w3 ⟨rfl, hb⟩
  have X1' : Box w3 (w1.heap.size) #[.int .u64 3, .int .u64 0, .int .u64 0, .int .u64 0] := Box.call hb (by repeat (first | with_reducible assumption | with_reducible apply Box.set10 | with_reducible apply Box.set20 | with_reducible apply Box.set21 | with_reducible apply Box.set40 | with_reducible apply Box.set41 | with_reducible apply Box.set42 | with_reducible apply Box.set43 | with_reducible apply Box.set50 | with_reducible apply Box.set51 | with_reducible apply Box.set52 | with_reducible apply Box.set53 | with_reducible apply Box.set54 | with_reducible apply Box.drew | (with_reducible apply Box.newAt; (try simp only [World.size_alloc, World.size_setCell, World.size_drew]); done) | with_reducible apply Box.alloc | (with_reducible apply Box.other; case hne => ((try simp only [World.size_alloc, World.size_setCell, World.size_drew]); omega))))
  have X2' : Box w3 (w1.heap.size + 1) #[.int .u64 0, .int .u64 1] := Box.call hb (by repeat (first | with_reducible assumption | with_reducible apply Box.set10 | with_reducible apply Box.set20 | with_reducible apply Box.set21 | with_reducible apply Box.set40 | with_reducible apply Box.set41 | with_reducible apply Box.set42 | with_reducible apply Box.set43 | with_reducible apply Box.set50 | with_reducible apply Box.set51 | with_reducible apply Box.set52 | with_reducible apply Box.set53 | with_reducible apply Box.set54 | with_reducible apply Box.drew | (with_reducible apply Box.newAt; (try simp only [World.size_alloc, World.size_setCell, World.size_drew]); done) | with_reducible apply Box.alloc | (with_reducible apply Box.other; case hne => ((try simp only [World.size_alloc, World.size_setCell, World.size_drew]); omega))))
  have hk' : Kept w.heap.size w w3 := Kept.step (by repeat (first | with_reducible exact hk | with_reducible exact Kept.refl _ | with_reducible refine Kept.alloc ?_ _ | with_reducible refine Kept.drew ?_ | with_reducible refine Kept.setCell ?_ (by simp only [World.size_alloc, World.size_setCell, World.size_drew]; omega) _)) hb
  clear hk hb
  clear X1 X1l1 X1l2 X1l3 X1f X10 X11 X12 X13
  clear X2 X2l1 X2l2 X2l3 X2f X20 X21
  have X1 := X1'
  clear X1'
  have X2 := X2'
  clear X2'
  have hk := hk'
  clear hk'
  have hz_w3 := hk.size
  have X1l := X1.lt
  have X1f := X1.free
  have X1l1 : w1.heap.size < w3.heap.size + 1 := by omega
  have X1l2 : w1.heap.size < w3.heap.size + 1 + 1 := by omega
  have X1l3 : w1.heap.size < w3.heap.size + 1 + 1 + 1 := by omega
  have X10 := X1.cell 0 _ rfl
  have X11 := X1.cell 1 _ rfl
  have X12 := X1.cell 2 _ rfl
  have X13 := X1.cell 3 _ rfl
  have X2l := X2.lt
  have X2f := X2.free
  have X2l1 : w1.heap.size + 1 < w3.heap.size + 1 := by omega
  have X2l2 : w1.heap.size + 1 < w3.heap.size + 1 + 1 := by omega
  have X2l3 : w1.heap.size + 1 < w3.heap.size + 1 + 1 + 1 := by omega
  have X20 := X2.cell 0 _ rfl
  have X21 := X2.cell 1 _ rfl
  go_wp2
  go_ret
  exact ⟨rfl, (by refine Kept.below ?_; repeat (first | with_reducible exact hk | with_reducible exact Kept.refl _ | with_reducible refine Kept.alloc ?_ _ | with_reducible refine Kept.drew ?_ | with_reducible refine Kept.setCell ?_ (by simp only [World.size_alloc, World.size_setCell, World.size_drew]; omega) _))⟩

end Go.Proofs.Ytglagdmfplgfaaa
