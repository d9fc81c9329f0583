/- The walk of RootSquare. -/
import Derived.Test.YtpeamkplhfddbaaLaw06
set_option linter.unusedVariables false
set_option linter.unusedSimpArgs false
namespace Go.Proofs.Ytpeamkplhfddbaa
open Go.RowKit

set_option maxRecDepth 100000 in
set_option maxHeartbeats 8000000 in
theorem RootSquare_0 (w : World) :
    Calls Try.prog 13 #[.agg #[.int .u64 0, .int .u64 0]] w fun e w' => e = .returned (.bool true) ∧ Below w.heap.size w w' := by
  have hk := Kept.refl w
  go_enter Try.func13, Try.ntmps13
  go_wp2_with fail
  (with_reducible refine (calls_to (V := .agg #[.int .u64 0, .int .u64 0, .int .u64 0, .int .u64 0]) (MulW_at (IsBits.val u64_zero u64_zero) (IsBits.val u64_zero u64_zero) _) (by kernel_rfl)).mono ?_)
  rintro e w1 ⟨rfl, hb⟩
  have X1' : Box w1 (w.heap.size) #[.int .u64 0, .int .u64 0] := Box.call hb (by repeat (first | with_reducible assumption | with_reducible apply Box.set10 | with_reducible apply Box.set20 | with_reducible apply Box.set21 | with_reducible apply Box.set40 | with_reducible apply Box.set41 | with_reducible apply Box.set42 | with_reducible apply Box.set43 | with_reducible apply Box.set50 | with_reducible apply Box.set51 | with_reducible apply Box.set52 | with_reducible apply Box.set53 | with_reducible apply Box.set54 | with_reducible apply Box.drew | (with_reducible apply Box.newAt; (try simp only [World.size_alloc, World.size_setCell, World.size_drew]); done) | with_reducible apply Box.alloc | (with_reducible apply Box.other; case hne => ((try simp only [World.size_alloc, World.size_setCell, World.size_drew]); omega))))
  have hk' : Kept w.heap.size w w1 := Kept.step (by repeat (first | with_reducible exact hk | with_reducible exact Kept.refl _ | with_reducible refine Kept.alloc ?_ _ | with_reducible refine Kept.drew ?_ | with_reducible refine Kept.setCell ?_ (by simp only [World.size_alloc, World.size_setCell, World.size_drew]; omega) _)) hb
  clear hk hb
  have X1 := X1'
  clear X1'
  have hk := hk'
  clear hk'
  have hz_w1 := hk.size
  have X1l := X1.lt
  have X1f := X1.free
  have X1l1 : w.heap.size < w1.heap.size + 1 := by omega
  have X1l2 : w.heap.size < w1.heap.size + 1 + 1 := by omega
  have X1l3 : w.heap.size < w1.heap.size + 1 + 1 + 1 := by omega
  have X10 := X1.cell 0 _ rfl
  have X11 := X1.cell 1 _ rfl
  go_wp2_with fail
  (with_reducible refine (calls_to (V := .tuple #[.agg #[.int .u64 0, .int .u64 0], .bool true]) (Root_lit (R := 0) (b := true) (IsWide.val u64_zero u64_zero u64_zero u64_zero) (by decide +kernel) _) (by kernel_rfl)).mono ?_)
  rintro e w2 ⟨rfl, hb⟩
  have X1' : Box w2 (w.heap.size) #[.int .u64 0, .int .u64 0] := Box.call hb (by repeat (first | with_reducible assumption | with_reducible apply Box.set10 | with_reducible apply Box.set20 | with_reducible apply Box.set21 | with_reducible apply Box.set40 | with_reducible apply Box.set41 | with_reducible apply Box.set42 | with_reducible apply Box.set43 | with_reducible apply Box.set50 | with_reducible apply Box.set51 | with_reducible apply Box.set52 | with_reducible apply Box.set53 | with_reducible apply Box.set54 | with_reducible apply Box.drew | (with_reducible apply Box.newAt; (try simp only [World.size_alloc, World.size_setCell, World.size_drew]); done) | with_reducible apply Box.alloc | (with_reducible apply Box.other; case hne => ((try simp only [World.size_alloc, World.size_setCell, World.size_drew]); omega))))
  have hk' : Kept w.heap.size w w2 := Kept.step (by repeat (first | with_reducible exact hk | with_reducible exact Kept.refl _ | with_reducible refine Kept.alloc ?_ _ | with_reducible refine Kept.drew ?_ | with_reducible refine Kept.setCell ?_ (by simp only [World.size_alloc, World.size_setCell, World.size_drew]; omega) _)) hb
  clear hk hb
  clear X1 X1l1 X1l2 X1l3 X1f X10 X11
  have X1 := X1'
  clear X1'
  have hk := hk'
  clear hk'
  have hz_w2 := hk.size
  have X1l := X1.lt
  have X1f := X1.free
  have X1l1 : w.heap.size < w2.heap.size + 1 := by omega
  have X1l2 : w.heap.size < w2.heap.size + 1 + 1 := by omega
  have X1l3 : w.heap.size < w2.heap.size + 1 + 1 + 1 := by omega
  have X10 := X1.cell 0 _ rfl
  have X11 := X1.cell 1 _ rfl
  go_wp2_with fail
  (with_reducible refine (goes06_any _).mono ?_)
  rintro e w3 ⟨rfl, hb⟩
  have hk' : Kept w.heap.size w w3 := Kept.step (by repeat (first | with_reducible exact hk | with_reducible exact Kept.refl _ | with_reducible refine Kept.alloc ?_ _ | with_reducible refine Kept.drew ?_ | with_reducible refine Kept.setCell ?_ (by simp only [World.size_alloc, World.size_setCell, World.size_drew]; omega) _)) hb
  clear hk hb
  clear X1 X1l1 X1l2 X1l3 X1f X10 X11
  have hk := hk'
  clear hk'
  have hz_w3 := hk.size
  go_wp2
  go_ret
  exact ⟨rfl, (by refine Kept.below ?_; repeat (first | with_reducible exact hk | with_reducible exact Kept.refl _ | with_reducible refine Kept.alloc ?_ _ | with_reducible refine Kept.drew ?_ | with_reducible refine Kept.setCell ?_ (by simp only [World.size_alloc, World.size_setCell, World.size_drew]; omega) _))⟩

set_option maxRecDepth 100000 in
set_option maxHeartbeats 8000000 in
theorem RootSquare_1 (w : World) :
    Calls Try.prog 13 #[.agg #[.int .u64 0, .int .u64 1]] w fun e w' => e = .returned (.bool true) ∧ Below w.heap.size w w' := by
  have hk := Kept.refl w
  go_enter Try.func13, Try.ntmps13
  go_wp2_with fail
  (with_reducible refine (calls_to (V := .agg #[.int .u64 1, .int .u64 0, .int .u64 0, .int .u64 0]) (MulW_at (IsBits.val u64_zero (isU64_mk (by decide +kernel))) (IsBits.val u64_zero (isU64_mk (by decide +kernel))) _) (by kernel_rfl)).mono ?_)
  rintro e w1 ⟨rfl, hb⟩
  have X1' : Box w1 (w.heap.size) #[.int .u64 0, .int .u64 1] := Box.call hb (by repeat (first | with_reducible assumption | with_reducible apply Box.set10 | with_reducible apply Box.set20 | with_reducible apply Box.set21 | with_reducible apply Box.set40 | with_reducible apply Box.set41 | with_reducible apply Box.set42 | with_reducible apply Box.set43 | with_reducible apply Box.set50 | with_reducible apply Box.set51 | with_reducible apply Box.set52 | with_reducible apply Box.set53 | with_reducible apply Box.set54 | with_reducible apply Box.drew | (with_reducible apply Box.newAt; (try simp only [World.size_alloc, World.size_setCell, World.size_drew]); done) | with_reducible apply Box.alloc | (with_reducible apply Box.other; case hne => ((try simp only [World.size_alloc, World.size_setCell, World.size_drew]); omega))))
  have hk' : Kept w.heap.size w w1 := Kept.step (by repeat (first | with_reducible exact hk | with_reducible exact Kept.refl _ | with_reducible refine Kept.alloc ?_ _ | with_reducible refine Kept.drew ?_ | with_reducible refine Kept.setCell ?_ (by simp only [World.size_alloc, World.size_setCell, World.size_drew]; omega) _)) hb
  clear hk hb
  have X1 := X1'
  clear X1'
  have hk := hk'
  clear hk'
  have hz_w1 := hk.size
  have X1l := X1.lt
  have X1f := X1.free
  have X1l1 : w.heap.size < w1.heap.size + 1 := by omega
  have X1l2 : w.heap.size < w1.heap.size + 1 + 1 := by omega
  have X1l3 : w.heap.size < w1.heap.size + 1 + 1 + 1 := by omega
  have X10 := X1.cell 0 _ rfl
  have X11 := X1.cell 1 _ rfl
  go_wp2_with fail
  (with_reducible refine (calls_to (V := .tuple #[.agg #[.int .u64 0, .int .u64 1], .bool true]) (Root_lit (R := 1) (b := true) (IsWide.val (isU64_mk (by decide +kernel)) u64_zero u64_zero u64_zero) (by decide +kernel) _) (by kernel_rfl)).mono ?_)
  rintro e w2 ⟨rfl, hb⟩
  have X1' : Box w2 (w.heap.size) #[.int .u64 0, .int .u64 1] := Box.call hb (by repeat (first | with_reducible assumption | with_reducible apply Box.set10 | with_reducible apply Box.set20 | with_reducible apply Box.set21 | with_reducible apply Box.set40 | with_reducible apply Box.set41 | with_reducible apply Box.set42 | with_reducible apply Box.set43 | with_reducible apply Box.set50 | with_reducible apply Box.set51 | with_reducible apply Box.set52 | with_reducible apply Box.set53 | with_reducible apply Box.set54 | with_reducible apply Box.drew | (with_reducible apply Box.newAt; (try simp only [World.size_alloc, World.size_setCell, World.size_drew]); done) | with_reducible apply Box.alloc | (with_reducible apply Box.other; case hne => ((try simp only [World.size_alloc, World.size_setCell, World.size_drew]); omega))))
  have hk' : Kept w.heap.size w w2 := Kept.step (by repeat (first | with_reducible exact hk | with_reducible exact Kept.refl _ | with_reducible refine Kept.alloc ?_ _ | with_reducible refine Kept.drew ?_ | with_reducible refine Kept.setCell ?_ (by simp only [World.size_alloc, World.size_setCell, World.size_drew]; omega) _)) hb
  clear hk hb
  clear X1 X1l1 X1l2 X1l3 X1f X10 X11
  have X1 := X1'
  clear X1'
  have hk := hk'
  clear hk'
  have hz_w2 := hk.size
  have X1l := X1.lt
  have X1f := X1.free
  have X1l1 : w.heap.size < w2.heap.size + 1 := by omega
  have X1l2 : w.heap.size < w2.heap.size + 1 + 1 := by omega
  have X1l3 : w.heap.size < w2.heap.size + 1 + 1 + 1 := by omega
  have X10 := X1.cell 0 _ rfl
  have X11 := X1.cell 1 _ rfl
  go_wp2_with fail
  (with_reducible refine (goes06_any _).mono ?_)
  rintro e w3 ⟨rfl, hb⟩
  have hk' : Kept w.heap.size w w3 := Kept.step (by repeat (first | with_reducible exact hk | with_reducible exact Kept.refl _ | with_reducible refine Kept.alloc ?_ _ | with_reducible refine Kept.drew ?_ | with_reducible refine Kept.setCell ?_ (by simp only [World.size_alloc, World.size_setCell, World.size_drew]; omega) _)) hb
  clear hk hb
  clear X1 X1l1 X1l2 X1l3 X1f X10 X11
  have hk := hk'
  clear hk'
  have hz_w3 := hk.size
  go_wp2
  go_ret
  exact ⟨rfl, (by refine Kept.below ?_; repeat (first | with_reducible exact hk | with_reducible exact Kept.refl _ | with_reducible refine Kept.alloc ?_ _ | with_reducible refine Kept.drew ?_ | with_reducible refine Kept.setCell ?_ (by simp only [World.size_alloc, World.size_setCell, World.size_drew]; omega) _))⟩

set_option maxRecDepth 100000 in
set_option maxHeartbeats 8000000 in
theorem RootSquare_mid {A S M N P : Nat} {x : Int} (hA : W128 A) (hS : W256 S) (e1 : mulN A A = S) (e2 : rootN S = A) (e3 : exactB S = true) (hM : W256 M) (hN : W256 N) (hP : W128 P) (e4 : add256 S (val4 1 0 0 0) = M) (e5 : rootN M = A) (e6 : exactB M = false) (e7 : sub256 S (val4 1 0 0 0) = N) (e8 : rootN N = P) (e9 : exactB N = false) (e10 : sub128 A (val2 1 0) = P) (hA1 : IsBits 0 x A) (c2 : ¬ x < 2) (w : World) :
    Calls Try.prog 13 #[.agg #[.int .u64 0, .int .u64 (x)]] w fun e w' => e = .returned (.bool true) ∧ Below w.heap.size w w' := by
  have hk := Kept.refl w
  have d2 : decide (x < 2) = false := decide_eq_false (by omega)
  clear c2
  have HA := Lib.hid (show bitsV A = .agg #[.int .u64 0, .int .u64 x] by rw [bitsV, ← hA1.hi, ← hA1.lo])
  have HS := Lib.hid e1; have HR := Lib.hid e2; have HX := Lib.hid e3
  have HM := Lib.hid e4; have HMR := Lib.hid e5; have HMX := Lib.hid e6; have HN := Lib.hid e7; have HNR := Lib.hid e8; have HNX := Lib.hid e9; have HP := Lib.hid e10
  clear e4 e5 e6 e7 e8 e9 e10
  clear e1 e2 e3
  go_enter Try.func13, Try.ntmps13
  go_wp2_with fail
  (with_reducible refine (calls_to (V := wideV S) (MulW_at hA1 hA1 _) (by rw [HS.out])).mono ?_)
  rintro e w1 ⟨rfl, hb⟩
  have X1' : Box w1 (w.heap.size) #[.int .u64 0, .int .u64 (x)] := Box.call hb (by repeat (first | with_reducible assumption | with_reducible apply Box.set10 | with_reducible apply Box.set20 | with_reducible apply Box.set21 | with_reducible apply Box.set40 | with_reducible apply Box.set41 | with_reducible apply Box.set42 | with_reducible apply Box.set43 | with_reducible apply Box.set50 | with_reducible apply Box.set51 | with_reducible apply Box.set52 | with_reducible apply Box.set53 | with_reducible apply Box.set54 | with_reducible apply Box.drew | (with_reducible apply Box.newAt; (try simp only [World.size_alloc, World.size_setCell, World.size_drew]); done) | with_reducible apply Box.alloc | (with_reducible apply Box.other; case hne => ((try simp only [World.size_alloc, World.size_setCell, World.size_drew]); omega))))
  have hk' : Kept w.heap.size w w1 := Kept.step (by repeat (first | with_reducible exact hk | with_reducible exact Kept.refl _ | with_reducible refine Kept.alloc ?_ _ | with_reducible refine Kept.drew ?_ | with_reducible refine Kept.setCell ?_ (by simp only [World.size_alloc, World.size_setCell, World.size_drew]; omega) _)) hb
  clear hk hb
  have X1 := X1'
  clear X1'
  have hk := hk'
  clear hk'
  have hz_w1 := hk.size
  have X1l := X1.lt
  have X1f := X1.free
  have X1l1 : w.heap.size < w1.heap.size + 1 := by omega
  have X1l2 : w.heap.size < w1.heap.size + 1 + 1 := by omega
  have X1l3 : w.heap.size < w1.heap.size + 1 + 1 + 1 := by omega
  have X10 := X1.cell 0 _ rfl
  have X11 := X1.cell 1 _ rfl
  go_wp2_with fail
  (with_reducible refine (calls_to (V := .tuple #[.agg #[.int .u64 0, .int .u64 (x)], .bool true]) (Root_at (IsWide.of hS) _) (by rw [HR.out, HA.out, HX.out])).mono ?_)
  rintro e w2 ⟨rfl, hb⟩
  have X1' : Box w2 (w.heap.size) #[.int .u64 0, .int .u64 (x)] := Box.call hb (by repeat (first | with_reducible assumption | with_reducible apply Box.set10 | with_reducible apply Box.set20 | with_reducible apply Box.set21 | with_reducible apply Box.set40 | with_reducible apply Box.set41 | with_reducible apply Box.set42 | with_reducible apply Box.set43 | with_reducible apply Box.set50 | with_reducible apply Box.set51 | with_reducible apply Box.set52 | with_reducible apply Box.set53 | with_reducible apply Box.set54 | with_reducible apply Box.drew | (with_reducible apply Box.newAt; (try simp only [World.size_alloc, World.size_setCell, World.size_drew]); done) | with_reducible apply Box.alloc | (with_reducible apply Box.other; case hne => ((try simp only [World.size_alloc, World.size_setCell, World.size_drew]); omega))))
  have X2' : Box w2 (w1.heap.size) #[.int .u64 (limb 0 S), .int .u64 (limb 1 S), .int .u64 (limb 2 S), .int .u64 (limb 3 S)] := Box.call hb (by repeat (first | with_reducible assumption | with_reducible apply Box.set10 | with_reducible apply Box.set20 | with_reducible apply Box.set21 | with_reducible apply Box.set40 | with_reducible apply Box.set41 | with_reducible apply Box.set42 | with_reducible apply Box.set43 | with_reducible apply Box.set50 | with_reducible apply Box.set51 | with_reducible apply Box.set52 | with_reducible apply Box.set53 | with_reducible apply Box.set54 | with_reducible apply Box.drew | (with_reducible apply Box.newAt; (try simp only [World.size_alloc, World.size_setCell, World.size_drew]); done) | with_reducible apply Box.alloc | (with_reducible apply Box.other; case hne => ((try simp only [World.size_alloc, World.size_setCell, World.size_drew]); omega))))
  have hk' : Kept w.heap.size w w2 := Kept.step (by repeat (first | with_reducible exact hk | with_reducible exact Kept.refl _ | with_reducible refine Kept.alloc ?_ _ | with_reducible refine Kept.drew ?_ | with_reducible refine Kept.setCell ?_ (by simp only [World.size_alloc, World.size_setCell, World.size_drew]; omega) _)) hb
  clear hk hb
  clear X1 X1l1 X1l2 X1l3 X1f X10 X11
  have X1 := X1'
  clear X1'
  have X2 := X2'
  clear X2'
  have hk := hk'
  clear hk'
  have hz_w2 := hk.size
  have X1l := X1.lt
  have X1f := X1.free
  have X1l1 : w.heap.size < w2.heap.size + 1 := by omega
  have X1l2 : w.heap.size < w2.heap.size + 1 + 1 := by omega
  have X1l3 : w.heap.size < w2.heap.size + 1 + 1 + 1 := by omega
  have X10 := X1.cell 0 _ rfl
  have X11 := X1.cell 1 _ rfl
  have X2l := X2.lt
  have X2f := X2.free
  have X2l1 : w1.heap.size < w2.heap.size + 1 := by omega
  have X2l2 : w1.heap.size < w2.heap.size + 1 + 1 := by omega
  have X2l3 : w1.heap.size < w2.heap.size + 1 + 1 + 1 := by omega
  have X20 := X2.cell 0 _ rfl
  have X21 := X2.cell 1 _ rfl
  have X22 := X2.cell 2 _ rfl
  have X23 := X2.cell 3 _ rfl
  go_wp2_with fail
  (with_reducible refine (calls_to (V := .tuple #[wideV M, .bool (carry256 S (val4 1 0 0 0))]) (AddW_at (IsWide.of hS) (IsWide.val (isU64_mk (by decide +kernel)) u64_zero u64_zero u64_zero) _) (by rw [HM.out])).mono ?_)
  rintro e w3 ⟨rfl, hb⟩
  have X1' : Box w3 (w.heap.size) #[.int .u64 0, .int .u64 (x)] := Box.call hb (by repeat (first | with_reducible assumption | with_reducible apply Box.set10 | with_reducible apply Box.set20 | with_reducible apply Box.set21 | with_reducible apply Box.set40 | with_reducible apply Box.set41 | with_reducible apply Box.set42 | with_reducible apply Box.set43 | with_reducible apply Box.set50 | with_reducible apply Box.set51 | with_reducible apply Box.set52 | with_reducible apply Box.set53 | with_reducible apply Box.set54 | with_reducible apply Box.drew | (with_reducible apply Box.newAt; (try simp only [World.size_alloc, World.size_setCell, World.size_drew]); done) | with_reducible apply Box.alloc | (with_reducible apply Box.other; case hne => ((try simp only [World.size_alloc, World.size_setCell, World.size_drew]); omega))))
  have X2' : Box w3 (w1.heap.size) #[.int .u64 (limb 0 S), .int .u64 (limb 1 S), .int .u64 (limb 2 S), .int .u64 (limb 3 S)] := Box.call hb (by repeat (first | with_reducible assumption | with_reducible apply Box.set10 | with_reducible apply Box.set20 | with_reducible apply Box.set21 | with_reducible apply Box.set40 | with_reducible apply Box.set41 | with_reducible apply Box.set42 | with_reducible apply Box.set43 | with_reducible apply Box.set50 | with_reducible apply Box.set51 | with_reducible apply Box.set52 | with_reducible apply Box.set53 | with_reducible apply Box.set54 | with_reducible apply Box.drew | (with_reducible apply Box.newAt; (try simp only [World.size_alloc, World.size_setCell, World.size_drew]); done) | with_reducible apply Box.alloc | (with_reducible apply Box.other; case hne => ((try simp only [World.size_alloc, World.size_setCell, World.size_drew]); omega))))
  have hk' : Kept w.heap.size w w3 := Kept.step (by repeat (first | with_reducible exact hk | with_reducible exact Kept.refl _ | with_reducible refine Kept.alloc ?_ _ | with_reducible refine Kept.drew ?_ | with_reducible refine Kept.setCell ?_ (by simp only [World.size_alloc, World.size_setCell, World.size_drew]; omega) _)) hb
  clear hk hb
  clear X1 X1l1 X1l2 X1l3 X1f X10 X11
  clear X2 X2l1 X2l2 X2l3 X2f X20 X21 X22 X23
  have X1 := X1'
  clear X1'
  have X2 := X2'
  clear X2'
  have hk := hk'
  clear hk'
  have hz_w3 := hk.size
  have X1l := X1.lt
  have X1f := X1.free
  have X1l1 : w.heap.size < w3.heap.size + 1 := by omega
  have X1l2 : w.heap.size < w3.heap.size + 1 + 1 := by omega
  have X1l3 : w.heap.size < w3.heap.size + 1 + 1 + 1 := by omega
  have X10 := X1.cell 0 _ rfl
  have X11 := X1.cell 1 _ rfl
  have X2l := X2.lt
  have X2f := X2.free
  have X2l1 : w1.heap.size < w3.heap.size + 1 := by omega
  have X2l2 : w1.heap.size < w3.heap.size + 1 + 1 := by omega
  have X2l3 : w1.heap.size < w3.heap.size + 1 + 1 + 1 := by omega
  have X20 := X2.cell 0 _ rfl
  have X21 := X2.cell 1 _ rfl
  have X22 := X2.cell 2 _ rfl
  have X23 := X2.cell 3 _ rfl
  go_wp2_with fail
  (with_reducible refine (calls_to (V := .tuple #[wideV N, .bool (ltB S (val4 1 0 0 0))]) (SubW_at (IsWide.of hS) (IsWide.val (isU64_mk (by decide +kernel)) u64_zero u64_zero u64_zero) _) (by rw [HN.out])).mono ?_)
  rintro e w4 ⟨rfl, hb⟩
  have X1' : Box w4 (w.heap.size) #[.int .u64 0, .int .u64 (x)] := Box.call hb (by repeat (first | with_reducible assumption | with_reducible apply Box.set10 | with_reducible apply Box.set20 | with_reducible apply Box.set21 | with_reducible apply Box.set40 | with_reducible apply Box.set41 | with_reducible apply Box.set42 | with_reducible apply Box.set43 | with_reducible apply Box.set50 | with_reducible apply Box.set51 | with_reducible apply Box.set52 | with_reducible apply Box.set53 | with_reducible apply Box.set54 | with_reducible apply Box.drew | (with_reducible apply Box.newAt; (try simp only [World.size_alloc, World.size_setCell, World.size_drew]); done) | with_reducible apply Box.alloc | (with_reducible apply Box.other; case hne => ((try simp only [World.size_alloc, World.size_setCell, World.size_drew]); omega))))
  have X4' : Box w4 (w3.heap.size) #[.int .u64 (limb 0 M), .int .u64 (limb 1 M), .int .u64 (limb 2 M), .int .u64 (limb 3 M)] := Box.call hb (by repeat (first | with_reducible assumption | with_reducible apply Box.set10 | with_reducible apply Box.set20 | with_reducible apply Box.set21 | with_reducible apply Box.set40 | with_reducible apply Box.set41 | with_reducible apply Box.set42 | with_reducible apply Box.set43 | with_reducible apply Box.set50 | with_reducible apply Box.set51 | with_reducible apply Box.set52 | with_reducible apply Box.set53 | with_reducible apply Box.set54 | with_reducible apply Box.drew | (with_reducible apply Box.newAt; (try simp only [World.size_alloc, World.size_setCell, World.size_drew]); done) | with_reducible apply Box.alloc | (with_reducible apply Box.other; case hne => ((try simp only [World.size_alloc, World.size_setCell, World.size_drew]); omega))))
  have hk' : Kept w.heap.size w w4 := Kept.step (by repeat (first | with_reducible exact hk | with_reducible exact Kept.refl _ | with_reducible refine Kept.alloc ?_ _ | with_reducible refine Kept.drew ?_ | with_reducible refine Kept.setCell ?_ (by simp only [World.size_alloc, World.size_setCell, World.size_drew]; omega) _)) hb
  clear hk hb
  clear X1 X1l1 X1l2 X1l3 X1f X10 X11
  clear X2 X2l1 X2l2 X2l3 X2f X20 X21 X22 X23
  have X1 := X1'
  clear X1'
  have X4 := X4'
  clear X4'
  have hk := hk'
  clear hk'
  have hz_w4 := hk.size
  have X1l := X1.lt
  have X1f := X1.free
  have X1l1 : w.heap.size < w4.heap.size + 1 := by omega
  have X1l2 : w.heap.size < w4.heap.size + 1 + 1 := by omega
  have X1l3 : w.heap.size < w4.heap.size + 1 + 1 + 1 := by omega
  have X10 := X1.cell 0 _ rfl
  have X11 := X1.cell 1 _ rfl
  have X4l := X4.lt
  have X4f := X4.free
  have X4l1 : w3.heap.size < w4.heap.size + 1 := by omega
  have X4l2 : w3.heap.size < w4.heap.size + 1 + 1 := by omega
  have X4l3 : w3.heap.size < w4.heap.size + 1 + 1 + 1 := by omega
  have X40 := X4.cell 0 _ rfl
  have X41 := X4.cell 1 _ rfl
  have X42 := X4.cell 2 _ rfl
  have X43 := X4.cell 3 _ rfl
  go_wp2_with fail
  (with_reducible refine (calls_to (V := .tuple #[.agg #[.int .u64 0, .int .u64 (x)], .bool false]) (Root_at (IsWide.of hM) _) (by rw [HMR.out, HA.out, HMX.out])).mono ?_)
  rintro e w5 ⟨rfl, hb⟩
  have X1' : Box w5 (w.heap.size) #[.int .u64 0, .int .u64 (x)] := Box.call hb (by repeat (first | with_reducible assumption | with_reducible apply Box.set10 | with_reducible apply Box.set20 | with_reducible apply Box.set21 | with_reducible apply Box.set40 | with_reducible apply Box.set41 | with_reducible apply Box.set42 | with_reducible apply Box.set43 | with_reducible apply Box.set50 | with_reducible apply Box.set51 | with_reducible apply Box.set52 | with_reducible apply Box.set53 | with_reducible apply Box.set54 | with_reducible apply Box.drew | (with_reducible apply Box.newAt; (try simp only [World.size_alloc, World.size_setCell, World.size_drew]); done) | with_reducible apply Box.alloc | (with_reducible apply Box.other; case hne => ((try simp only [World.size_alloc, World.size_setCell, World.size_drew]); omega))))
  have X5' : Box w5 (w4.heap.size) #[.int .u64 (limb 0 N), .int .u64 (limb 1 N), .int .u64 (limb 2 N), .int .u64 (limb 3 N)] := Box.call hb (by repeat (first | with_reducible assumption | with_reducible apply Box.set10 | with_reducible apply Box.set20 | with_reducible apply Box.set21 | with_reducible apply Box.set40 | with_reducible apply Box.set41 | with_reducible apply Box.set42 | with_reducible apply Box.set43 | with_reducible apply Box.set50 | with_reducible apply Box.set51 | with_reducible apply Box.set52 | with_reducible apply Box.set53 | with_reducible apply Box.set54 | with_reducible apply Box.drew | (with_reducible apply Box.newAt; (try simp only [World.size_alloc, World.size_setCell, World.size_drew]); done) | with_reducible apply Box.alloc | (with_reducible apply Box.other; case hne => ((try simp only [World.size_alloc, World.size_setCell, World.size_drew]); omega))))
  have hk' : Kept w.heap.size w w5 := Kept.step (by repeat (first | with_reducible exact hk | with_reducible exact Kept.refl _ | with_reducible refine Kept.alloc ?_ _ | with_reducible refine Kept.drew ?_ | with_reducible refine Kept.setCell ?_ (by simp only [World.size_alloc, World.size_setCell, World.size_drew]; omega) _)) hb
  clear hk hb
  clear X1 X1l1 X1l2 X1l3 X1f X10 X11
  clear X4 X4l1 X4l2 X4l3 X4f X40 X41 X42 X43
  have X1 := X1'
  clear X1'
  have X5 := X5'
  clear X5'
  have hk := hk'
  clear hk'
  have hz_w5 := hk.size
  have X1l := X1.lt
  have X1f := X1.free
  have X1l1 : w.heap.size < w5.heap.size + 1 := by omega
  have X1l2 : w.heap.size < w5.heap.size + 1 + 1 := by omega
  have X1l3 : w.heap.size < w5.heap.size + 1 + 1 + 1 := by omega
  have X10 := X1.cell 0 _ rfl
  have X11 := X1.cell 1 _ rfl
  have X5l := X5.lt
  have X5f := X5.free
  have X5l1 : w4.heap.size < w5.heap.size + 1 := by omega
  have X5l2 : w4.heap.size < w5.heap.size + 1 + 1 := by omega
  have X5l3 : w4.heap.size < w5.heap.size + 1 + 1 + 1 := by omega
  have X50 := X5.cell 0 _ rfl
  have X51 := X5.cell 1 _ rfl
  have X52 := X5.cell 2 _ rfl
  have X53 := X5.cell 3 _ rfl
  go_wp2_with fail
  (with_reducible refine (calls_to (V := .tuple #[bitsV P, .bool false]) (Root_at (IsWide.of hN) _) (by rw [HNR.out, HNX.out])).mono ?_)
  rintro e w6 ⟨rfl, hb⟩
  have X1' : Box w6 (w.heap.size) #[.int .u64 0, .int .u64 (x)] := Box.call hb (by repeat (first | with_reducible assumption | with_reducible apply Box.set10 | with_reducible apply Box.set20 | with_reducible apply Box.set21 | with_reducible apply Box.set40 | with_reducible apply Box.set41 | with_reducible apply Box.set42 | with_reducible apply Box.set43 | with_reducible apply Box.set50 | with_reducible apply Box.set51 | with_reducible apply Box.set52 | with_reducible apply Box.set53 | with_reducible apply Box.set54 | with_reducible apply Box.drew | (with_reducible apply Box.newAt; (try simp only [World.size_alloc, World.size_setCell, World.size_drew]); done) | with_reducible apply Box.alloc | (with_reducible apply Box.other; case hne => ((try simp only [World.size_alloc, World.size_setCell, World.size_drew]); omega))))
  have X6' : Box w6 (w5.heap.size) #[.int .u64 0, .int .u64 (x)] := Box.call hb (by repeat (first | with_reducible assumption | with_reducible apply Box.set10 | with_reducible apply Box.set20 | with_reducible apply Box.set21 | with_reducible apply Box.set40 | with_reducible apply Box.set41 | with_reducible apply Box.set42 | with_reducible apply Box.set43 | with_reducible apply Box.set50 | with_reducible apply Box.set51 | with_reducible apply Box.set52 | with_reducible apply Box.set53 | with_reducible apply Box.set54 | with_reducible apply Box.drew | (with_reducible apply Box.newAt; (try simp only [World.size_alloc, World.size_setCell, World.size_drew]); done) | with_reducible apply Box.alloc | (with_reducible apply Box.other; case hne => ((try simp only [World.size_alloc, World.size_setCell, World.size_drew]); omega))))
  have hk' : Kept w.heap.size w w6 := Kept.step (by repeat (first | with_reducible exact hk | with_reducible exact Kept.refl _ | with_reducible refine Kept.alloc ?_ _ | with_reducible refine Kept.drew ?_ | with_reducible refine Kept.setCell ?_ (by simp only [World.size_alloc, World.size_setCell, World.size_drew]; omega) _)) hb
  clear hk hb
  clear X1 X1l1 X1l2 X1l3 X1f X10 X11
  clear X5 X5l1 X5l2 X5l3 X5f X50 X51 X52 X53
  have X1 := X1'
  clear X1'
  have X6 := X6'
  clear X6'
  have hk := hk'
  clear hk'
  have hz_w6 := hk.size
  have X1l := X1.lt
  have X1f := X1.free
  have X1l1 : w.heap.size < w6.heap.size + 1 := by omega
  have X1l2 : w.heap.size < w6.heap.size + 1 + 1 := by omega
  have X1l3 : w.heap.size < w6.heap.size + 1 + 1 + 1 := by omega
  have X10 := X1.cell 0 _ rfl
  have X11 := X1.cell 1 _ rfl
  have X6l := X6.lt
  have X6f := X6.free
  have X6l1 : w5.heap.size < w6.heap.size + 1 := by omega
  have X6l2 : w5.heap.size < w6.heap.size + 1 + 1 := by omega
  have X6l3 : w5.heap.size < w6.heap.size + 1 + 1 + 1 := by omega
  have X60 := X6.cell 0 _ rfl
  have X61 := X6.cell 1 _ rfl
  go_wp2_with fail
  (with_reducible refine (calls_to (V := .tuple #[bitsV P, .bool (ltB A (val2 1 0))]) (Sub_at hA1 (IsBits.val u64_zero (isU64_mk (by decide +kernel))) _) (by rw [HP.out])).mono ?_)
  rintro e w7 ⟨rfl, hb⟩
  have X1' : Box w7 (w.heap.size) #[.int .u64 0, .int .u64 (x)] := Box.call hb (by repeat (first | with_reducible assumption | with_reducible apply Box.set10 | with_reducible apply Box.set20 | with_reducible apply Box.set21 | with_reducible apply Box.set40 | with_reducible apply Box.set41 | with_reducible apply Box.set42 | with_reducible apply Box.set43 | with_reducible apply Box.set50 | with_reducible apply Box.set51 | with_reducible apply Box.set52 | with_reducible apply Box.set53 | with_reducible apply Box.set54 | with_reducible apply Box.drew | (with_reducible apply Box.newAt; (try simp only [World.size_alloc, World.size_setCell, World.size_drew]); done) | with_reducible apply Box.alloc | (with_reducible apply Box.other; case hne => ((try simp only [World.size_alloc, World.size_setCell, World.size_drew]); omega))))
  have X6' : Box w7 (w5.heap.size) #[.int .u64 0, .int .u64 (x)] := Box.call hb (by repeat (first | with_reducible assumption | with_reducible apply Box.set10 | with_reducible apply Box.set20 | with_reducible apply Box.set21 | with_reducible apply Box.set40 | with_reducible apply Box.set41 | with_reducible apply Box.set42 | with_reducible apply Box.set43 | with_reducible apply Box.set50 | with_reducible apply Box.set51 | with_reducible apply Box.set52 | with_reducible apply Box.set53 | with_reducible apply Box.set54 | with_reducible apply Box.drew | (with_reducible apply Box.newAt; (try simp only [World.size_alloc, World.size_setCell, World.size_drew]); done) | with_reducible apply Box.alloc | (with_reducible apply Box.other; case hne => ((try simp only [World.size_alloc, World.size_setCell, World.size_drew]); omega))))
  have X7' : Box w7 (w6.heap.size) #[.int .u64 (limb 1 P), .int .u64 (limb 0 P)] := Box.call hb (by repeat (first | with_reducible assumption | with_reducible apply Box.set10 | with_reducible apply Box.set20 | with_reducible apply Box.set21 | with_reducible apply Box.set40 | with_reducible apply Box.set41 | with_reducible apply Box.set42 | with_reducible apply Box.set43 | with_reducible apply Box.set50 | with_reducible apply Box.set51 | with_reducible apply Box.set52 | with_reducible apply Box.set53 | with_reducible apply Box.set54 | with_reducible apply Box.drew | (with_reducible apply Box.newAt; (try simp only [World.size_alloc, World.size_setCell, World.size_drew]); done) | with_reducible apply Box.alloc | (with_reducible apply Box.other; case hne => ((try simp only [World.size_alloc, World.size_setCell, World.size_drew]); omega))))
  have hk' : Kept w.heap.size w w7 := Kept.step (by repeat (first | with_reducible exact hk | with_reducible exact Kept.refl _ | with_reducible refine Kept.alloc ?_ _ | with_reducible refine Kept.drew ?_ | with_reducible refine Kept.setCell ?_ (by simp only [World.size_alloc, World.size_setCell, World.size_drew]; omega) _)) hb
  clear hk hb
  clear X1 X1l1 X1l2 X1l3 X1f X10 X11
  clear X6 X6l1 X6l2 X6l3 X6f X60 X61
  have X1 := X1'
  clear X1'
  have X6 := X6'
  clear X6'
  have X7 := X7'
  clear X7'
  have hk := hk'
  clear hk'
  have hz_w7 := hk.size
  have X1l := X1.lt
  have X1f := X1.free
  have X1l1 : w.heap.size < w7.heap.size + 1 := by omega
  have X1l2 : w.heap.size < w7.heap.size + 1 + 1 := by omega
  have X1l3 : w.heap.size < w7.heap.size + 1 + 1 + 1 := by omega
  have X10 := X1.cell 0 _ rfl
  have X11 := X1.cell 1 _ rfl
  have X6l := X6.lt
  have X6f := X6.free
  have X6l1 : w5.heap.size < w7.heap.size + 1 := by omega
  have X6l2 : w5.heap.size < w7.heap.size + 1 + 1 := by omega
  have X6l3 : w5.heap.size < w7.heap.size + 1 + 1 + 1 := by omega
  have X60 := X6.cell 0 _ rfl
  have X61 := X6.cell 1 _ rfl
  have X7l := X7.lt
  have X7f := X7.free
  have X7l1 : w6.heap.size < w7.heap.size + 1 := by omega
  have X7l2 : w6.heap.size < w7.heap.size + 1 + 1 := by omega
  have X7l3 : w6.heap.size < w7.heap.size + 1 + 1 + 1 := by omega
  have X70 := X7.cell 0 _ rfl
  have X71 := X7.cell 1 _ rfl
  go_upto_region 12 with fail
  refine wp_region_p 20 (fun W' => Kept w.heap.size w W' ∧ w7.heap.size + 1 ≤ W'.heap.size ∧ Box W' (w.heap.size) #[.int .u64 0, .int .u64 (x)] ∧ Box W' (w5.heap.size) #[.int .u64 0, .int .u64 (x)] ∧ Box W' (w6.heap.size) #[.int .u64 (limb 1 P), .int .u64 (limb 0 P)] ∧ Box W' (w7.heap.size) #[.int .u64 (limb 1 P), .int .u64 (limb 0 P)]) (fun W' => Kept w.heap.size w W' ∧ w7.heap.size + 1 ≤ W'.heap.size ∧ Box W' (w.heap.size) #[.int .u64 0, .int .u64 (x)] ∧ Box W' (w5.heap.size) #[.int .u64 0, .int .u64 (x)] ∧ Box W' (w6.heap.size) #[.int .u64 (limb 1 P), .int .u64 (limb 0 P)] ∧ Box W' (w7.heap.size) #[.int .u64 (limb 1 P), .int .u64 (limb 0 P)]) 1000 (w7.heap.size + 1) [.known (.agg #[.int .u64 0, .int .u64 (x)]), .known (.agg #[.int .u64 0, .int .u64 (x)]), .known (.bool true), .known (.bool true), .known (.bool false), .known (.bool true), .known (.bool true), .known (.bool true), .known (bitsV P), .known (bitsV P), .known (.bool true), .known (.bool true), .known (.bool true), .known (.bool false), .known (.bool true), .known (.bool true), .known (.bool true), .known (.bool true), .known (.bool true), .known (.bool true)] (by kernel_rfl) (by kernel_rfl) (fun W W' h hb => ⟨h.1.step hb, Nat.le_trans (h.2.1) hb.size, Box.call hb (h.2.2.1), Box.call hb (h.2.2.2.1), Box.call hb (h.2.2.2.2.1), Box.call hb (h.2.2.2.2.2)⟩) (fun W W' h hb => ⟨h.1.step hb, Nat.le_trans (h.2.1) hb.size, Box.call hb (h.2.2.1), Box.call hb (h.2.2.2.1), Box.call hb (h.2.2.2.2.1), Box.call hb (h.2.2.2.2.2)⟩) (no_out (of_decide_eq_true (by kernel_rfl))) (.inl (by kernel_rfl)) (.inl (by kernel_rfl)) (fun _ h => h.2.1) (fun _ h => h.2.1) (⟨(by repeat (first | with_reducible exact hk | with_reducible exact Kept.refl _ | with_reducible refine Kept.alloc ?_ _ | with_reducible refine Kept.drew ?_ | with_reducible refine Kept.setCell ?_ (by simp only [World.size_alloc, World.size_setCell, World.size_drew]; omega) _)), (by (try simp only [World.size_alloc, World.size_setCell, World.size_drew]); omega), (by repeat (first | with_reducible assumption | with_reducible apply Box.set10 | with_reducible apply Box.set20 | with_reducible apply Box.set21 | with_reducible apply Box.set40 | with_reducible apply Box.set41 | with_reducible apply Box.set42 | with_reducible apply Box.set43 | with_reducible apply Box.set50 | with_reducible apply Box.set51 | with_reducible apply Box.set52 | with_reducible apply Box.set53 | with_reducible apply Box.set54 | with_reducible apply Box.drew | (with_reducible apply Box.newAt; (try simp only [World.size_alloc, World.size_setCell, World.size_drew]); done) | with_reducible apply Box.alloc | (with_reducible apply Box.other; case hne => ((try simp only [World.size_alloc, World.size_setCell, World.size_drew]); omega)))), (by repeat (first | with_reducible assumption | with_reducible apply Box.set10 | with_reducible apply Box.set20 | with_reducible apply Box.set21 | with_reducible apply Box.set40 | with_reducible apply Box.set41 | with_reducible apply Box.set42 | with_reducible apply Box.set43 | with_reducible apply Box.set50 | with_reducible apply Box.set51 | with_reducible apply Box.set52 | with_reducible apply Box.set53 | with_reducible apply Box.set54 | with_reducible apply Box.drew | (with_reducible apply Box.newAt; (try simp only [World.size_alloc, World.size_setCell, World.size_drew]); done) | with_reducible apply Box.alloc | (with_reducible apply Box.other; case hne => ((try simp only [World.size_alloc, World.size_setCell, World.size_drew]); omega)))), (by repeat (first | with_reducible assumption | with_reducible apply Box.set10 | with_reducible apply Box.set20 | with_reducible apply Box.set21 | with_reducible apply Box.set40 | with_reducible apply Box.set41 | with_reducible apply Box.set42 | with_reducible apply Box.set43 | with_reducible apply Box.set50 | with_reducible apply Box.set51 | with_reducible apply Box.set52 | with_reducible apply Box.set53 | with_reducible apply Box.set54 | with_reducible apply Box.drew | (with_reducible apply Box.newAt; (try simp only [World.size_alloc, World.size_setCell, World.size_drew]); done) | with_reducible apply Box.alloc | (with_reducible apply Box.other; case hne => ((try simp only [World.size_alloc, World.size_setCell, World.size_drew]); omega)))), (by repeat (first | with_reducible assumption | with_reducible apply Box.set10 | with_reducible apply Box.set20 | with_reducible apply Box.set21 | with_reducible apply Box.set40 | with_reducible apply Box.set41 | with_reducible apply Box.set42 | with_reducible apply Box.set43 | with_reducible apply Box.set50 | with_reducible apply Box.set51 | with_reducible apply Box.set52 | with_reducible apply Box.set53 | with_reducible apply Box.set54 | with_reducible apply Box.drew | (with_reducible apply Box.newAt; (try simp only [World.size_alloc, World.size_setCell, World.size_drew]); done) | with_reducible apply Box.alloc | (with_reducible apply Box.other; case hne => ((try simp only [World.size_alloc, World.size_setCell, World.size_drew]); omega))))⟩) ?_
  clear hk
  clear X1 X1l1 X1l2 X1l3 X1f X10 X11
  clear X6 X6l1 X6l2 X6l3 X6f X60 X61
  clear X7 X7l1 X7l2 X7l3 X7f X70 X71
  intro ρ
  simp only [List.take_succ_cons, List.take_zero, List.drop_succ_cons, List.drop_zero]
  refine ⟨?_, ?_⟩
  · as_aux_lemma =>
    intro y_ hS_ hO_ hD
    have Q := ((hS_ (by rfl)).2.2.2.1).cell
    have q0 := Q 0 _ rfl
    have q1 := Q 1 _ rfl
    clear Q hS_ hO_ hD
    refine s_gen (V := .agg #[.int .u64 0, .int .u64 (x)]) [.pointer (some ⟨w5.heap.size, 0, none⟩)] (by kernel_rfl) (by kernel_rfl) (by kernel_rfl) ?_
    intro r_ hr_
    have o0_ : r_ (.tmp 10) = .pointer (some ⟨w5.heap.size, 0, none⟩) := op_at hr_ 0 (by kernel_rfl) (by kernel_rfl)
    clear hr_
    go_simp; first | done | with_reducible rfl
  simp only [Act.put, planVG, List.setIfInBounds_toArray, List.set_cons_zero, List.set_cons_succ, List.getElem?_cons_zero, List.getElem?_cons_succ]
  refine ⟨?_, ?_⟩
  · as_aux_lemma =>
    intro y_ hS_ hO_ hD
    have Q := ((hS_ (by rfl)).2.2.1).cell
    have q0 := Q 0 _ rfl
    have q1 := Q 1 _ rfl
    clear Q hS_ hO_ hD
    refine s_gen (V := .agg #[.int .u64 0, .int .u64 (x)]) [.pointer (some ⟨w.heap.size, 0, none⟩)] (by kernel_rfl) (by kernel_rfl) (by kernel_rfl) ?_
    intro r_ hr_
    have o0_ : r_ (.tmp 1) = .pointer (some ⟨w.heap.size, 0, none⟩) := op_at hr_ 0 (by kernel_rfl) (by kernel_rfl)
    clear hr_
    go_simp; first | done | with_reducible rfl
  simp only [Act.put, planVG, List.setIfInBounds_toArray, List.set_cons_zero, List.set_cons_succ, List.getElem?_cons_zero, List.getElem?_cons_succ]
  refine ⟨?_, ?_⟩
  · as_aux_lemma =>
    intro y_ hS_ hO_ hD
    clear hS_ hO_ hD
    refine s_gen (V := .bool true) [.agg #[.int .u64 0, .int .u64 (x)], .agg #[.int .u64 0, .int .u64 (x)]] (by kernel_rfl) (by kernel_rfl) (by kernel_rfl) ?_
    intro r_ hr_
    have o0_ : r_ (.tmp 68) = .agg #[.int .u64 0, .int .u64 (x)] := op_at hr_ 0 (by kernel_rfl) (by kernel_rfl)
    have o1_ : r_ (.tmp 69) = .agg #[.int .u64 0, .int .u64 (x)] := op_at hr_ 1 (by kernel_rfl) (by kernel_rfl)
    clear hr_
    go_simp; first | done | with_reducible rfl
  simp only [Act.put, planVG, List.setIfInBounds_toArray, List.set_cons_zero, List.set_cons_succ, List.getElem?_cons_zero, List.getElem?_cons_succ]
  refine ⟨?_, ?_⟩
  · as_aux_lemma =>
    intro y_ hS_ hO_ hD
    clear hS_ hO_ hD
    refine s_gen (V := .bool true) [.bool true] (by kernel_rfl) (by kernel_rfl) (by kernel_rfl) ?_
    intro r_ hr_
    have o0_ : r_ (.tmp 70) = .bool true := op_at hr_ 0 (by kernel_rfl) (by kernel_rfl)
    clear hr_
    go_simp; first | done | with_reducible rfl
  simp only [Act.put, planVG, List.setIfInBounds_toArray, List.set_cons_zero, List.set_cons_succ, List.getElem?_cons_zero, List.getElem?_cons_succ]
  refine ⟨?_, ?_⟩
  · as_aux_lemma =>
    intro y_ hS_ hO_ hD
    clear hS_ hO_ hD
    refine s_gen (V := .bool false) [.bool false] (by kernel_rfl) (by kernel_rfl) (by kernel_rfl) ?_
    intro r_ hr_
    have o0_ : r_ (.tmp 11) = .bool false := op_at hr_ 0 (by kernel_rfl) (by kernel_rfl)
    clear hr_
    go_simp; first | done | with_reducible rfl
  simp only [Act.put, planVG, List.setIfInBounds_toArray, List.set_cons_zero, List.set_cons_succ, List.getElem?_cons_zero, List.getElem?_cons_succ]
  refine ⟨?_, ?_⟩
  · as_aux_lemma =>
    intro y_ hS_ hO_ hD
    clear hS_ hO_ hD
    refine s_gen (V := .bool true) [.bool false] (by kernel_rfl) (by kernel_rfl) (by kernel_rfl) ?_
    intro r_ hr_
    have o0_ : r_ (.tmp 72) = .bool false := op_at hr_ 0 (by kernel_rfl) (by kernel_rfl)
    clear hr_
    go_simp; first | done | with_reducible rfl
  simp only [Act.put, planVG, List.setIfInBounds_toArray, List.set_cons_zero, List.set_cons_succ, List.getElem?_cons_zero, List.getElem?_cons_succ]
  refine ⟨?_, ?_⟩
  · as_aux_lemma =>
    intro y_ hS_ hO_ hD
    clear hS_ hO_ hD
    refine s_gen (V := .bool true) [.bool true, .bool true, .bool false] (by kernel_rfl) (by kernel_rfl) (by kernel_rfl) ?_
    intro r_ hr_
    have o0_ : r_ (.tmp 71) = .bool true := op_at hr_ 0 (by kernel_rfl) (by kernel_rfl)
    have o1_ : r_ (.tmp 73) = .bool true := op_at hr_ 1 (by kernel_rfl) (by kernel_rfl)
    have o2_ : r_ (.const (.bool false)) = .bool false := op_at hr_ 2 (by kernel_rfl) (by kernel_rfl)
    clear hr_
    go_simp; first | done | with_reducible rfl
  simp only [Act.put, planVG, List.setIfInBounds_toArray, List.set_cons_zero, List.set_cons_succ, List.getElem?_cons_zero, List.getElem?_cons_succ]
  refine ⟨?_, ?_⟩
  · as_aux_lemma =>
    intro y_ hS_ hO_ hD
    clear hS_ hO_ hD
    refine s_gen (V := .bool true) [.bool true] (by kernel_rfl) (by kernel_rfl) (by kernel_rfl) ?_
    intro r_ hr_
    have o0_ : r_ (.tmp 74) = .bool true := op_at hr_ 0 (by kernel_rfl) (by kernel_rfl)
    clear hr_
    go_simp; first | done | with_reducible rfl
  simp only [Act.put, planVG, List.setIfInBounds_toArray, List.set_cons_zero, List.set_cons_succ, List.getElem?_cons_zero, List.getElem?_cons_succ]
  refine ⟨?_, ?_⟩
  · as_aux_lemma =>
    intro y_ hS_ hO_ hD
    have Q := ((hS_ (by rfl)).2.2.2.2.1).cell
    have q0 := Q 0 _ rfl
    have q1 := Q 1 _ rfl
    clear Q hS_ hO_ hD
    refine s_gen (V := bitsV P) [.pointer (some ⟨w6.heap.size, 0, none⟩)] (by kernel_rfl) (by kernel_rfl) (by kernel_rfl) ?_
    intro r_ hr_
    have o0_ : r_ (.tmp 12) = .pointer (some ⟨w6.heap.size, 0, none⟩) := op_at hr_ 0 (by kernel_rfl) (by kernel_rfl)
    clear hr_
    go_simp; first | done | with_reducible rfl
  simp only [Act.put, planVG, List.setIfInBounds_toArray, List.set_cons_zero, List.set_cons_succ, List.getElem?_cons_zero, List.getElem?_cons_succ]
  refine ⟨?_, ?_⟩
  · as_aux_lemma =>
    intro y_ hS_ hO_ hD
    have Q := ((hS_ (by rfl)).2.2.2.2.2).cell
    have q0 := Q 0 _ rfl
    have q1 := Q 1 _ rfl
    clear Q hS_ hO_ hD
    refine s_gen (V := bitsV P) [.pointer (some ⟨w7.heap.size, 0, none⟩)] (by kernel_rfl) (by kernel_rfl) (by kernel_rfl) ?_
    intro r_ hr_
    have o0_ : r_ (.tmp 14) = .pointer (some ⟨w7.heap.size, 0, none⟩) := op_at hr_ 0 (by kernel_rfl) (by kernel_rfl)
    clear hr_
    go_simp; first | done | with_reducible rfl
  simp only [Act.put, planVG, List.setIfInBounds_toArray, List.set_cons_zero, List.set_cons_succ, List.getElem?_cons_zero, List.getElem?_cons_succ]
  refine ⟨?_, ?_⟩
  · as_aux_lemma =>
    intro y_ hS_ hO_ hD
    clear hS_ hO_ hD
    refine s_gen (V := .bool true) [bitsV P, bitsV P] (by kernel_rfl) (by kernel_rfl) (by kernel_rfl) ?_
    intro r_ hr_
    have o0_ : r_ (.tmp 76) = bitsV P := op_at hr_ 0 (by kernel_rfl) (by kernel_rfl)
    have o1_ : r_ (.tmp 77) = bitsV P := op_at hr_ 1 (by kernel_rfl) (by kernel_rfl)
    clear hr_
    go_simp; first | done | with_reducible rfl
  simp only [Act.put, planVG, List.setIfInBounds_toArray, List.set_cons_zero, List.set_cons_succ, List.getElem?_cons_zero, List.getElem?_cons_succ]
  refine ⟨?_, ?_⟩
  · as_aux_lemma =>
    intro y_ hS_ hO_ hD
    clear hS_ hO_ hD
    refine s_gen (V := .bool true) [.bool true, .bool true, .bool false] (by kernel_rfl) (by kernel_rfl) (by kernel_rfl) ?_
    intro r_ hr_
    have o0_ : r_ (.tmp 75) = .bool true := op_at hr_ 0 (by kernel_rfl) (by kernel_rfl)
    have o1_ : r_ (.tmp 78) = .bool true := op_at hr_ 1 (by kernel_rfl) (by kernel_rfl)
    have o2_ : r_ (.const (.bool false)) = .bool false := op_at hr_ 2 (by kernel_rfl) (by kernel_rfl)
    clear hr_
    go_simp; first | done | with_reducible rfl
  simp only [Act.put, planVG, List.setIfInBounds_toArray, List.set_cons_zero, List.set_cons_succ, List.getElem?_cons_zero, List.getElem?_cons_succ]
  refine ⟨?_, ?_⟩
  · as_aux_lemma =>
    intro y_ hS_ hO_ hD
    clear hS_ hO_ hD
    refine s_gen (V := .bool true) [.bool true] (by kernel_rfl) (by kernel_rfl) (by kernel_rfl) ?_
    intro r_ hr_
    have o0_ : r_ (.tmp 79) = .bool true := op_at hr_ 0 (by kernel_rfl) (by kernel_rfl)
    clear hr_
    go_simp; first | done | with_reducible rfl
  simp only [Act.put, planVG, List.setIfInBounds_toArray, List.set_cons_zero, List.set_cons_succ, List.getElem?_cons_zero, List.getElem?_cons_succ]
  refine ⟨?_, ?_⟩
  · as_aux_lemma =>
    intro y_ hS_ hO_ hD
    clear hS_ hO_ hD
    refine s_gen (V := .bool false) [.bool false] (by kernel_rfl) (by kernel_rfl) (by kernel_rfl) ?_
    intro r_ hr_
    have o0_ : r_ (.tmp 13) = .bool false := op_at hr_ 0 (by kernel_rfl) (by kernel_rfl)
    clear hr_
    go_simp; first | done | with_reducible rfl
  simp only [Act.put, planVG, List.setIfInBounds_toArray, List.set_cons_zero, List.set_cons_succ, List.getElem?_cons_zero, List.getElem?_cons_succ]
  refine ⟨?_, ?_⟩
  · as_aux_lemma =>
    intro y_ hS_ hO_ hD
    clear hS_ hO_ hD
    refine s_gen (V := .bool true) [.bool false] (by kernel_rfl) (by kernel_rfl) (by kernel_rfl) ?_
    intro r_ hr_
    have o0_ : r_ (.tmp 81) = .bool false := op_at hr_ 0 (by kernel_rfl) (by kernel_rfl)
    clear hr_
    go_simp; first | done | with_reducible rfl
  simp only [Act.put, planVG, List.setIfInBounds_toArray, List.set_cons_zero, List.set_cons_succ, List.getElem?_cons_zero, List.getElem?_cons_succ]
  refine ⟨?_, ?_⟩
  · as_aux_lemma =>
    intro y_ hS_ hO_ hD
    clear hS_ hO_ hD
    refine s_gen (V := .bool true) [.bool true, .bool true, .bool false] (by kernel_rfl) (by kernel_rfl) (by kernel_rfl) ?_
    intro r_ hr_
    have o0_ : r_ (.tmp 80) = .bool true := op_at hr_ 0 (by kernel_rfl) (by kernel_rfl)
    have o1_ : r_ (.tmp 82) = .bool true := op_at hr_ 1 (by kernel_rfl) (by kernel_rfl)
    have o2_ : r_ (.const (.bool false)) = .bool false := op_at hr_ 2 (by kernel_rfl) (by kernel_rfl)
    clear hr_
    go_simp; first | done | with_reducible rfl
  simp only [Act.put, planVG, List.setIfInBounds_toArray, List.set_cons_zero, List.set_cons_succ, List.getElem?_cons_zero, List.getElem?_cons_succ]
  refine ⟨?_, ?_⟩
  · as_aux_lemma =>
    intro y_ hS_ hO_ hD
    clear hS_ hO_ hD
    refine s_gen (V := .bool true) [.bool true] (by kernel_rfl) (by kernel_rfl) (by kernel_rfl) ?_
    intro r_ hr_
    have o0_ : r_ (.tmp 83) = .bool true := op_at hr_ 0 (by kernel_rfl) (by kernel_rfl)
    clear hr_
    go_simp; first | done | with_reducible rfl
  simp only [Act.put, planVG, List.setIfInBounds_toArray, List.set_cons_zero, List.set_cons_succ, List.getElem?_cons_zero, List.getElem?_cons_succ]
  refine ⟨?_, ?_⟩
  · as_aux_lemma =>
    intro y_ hS_ hO_ hD
    try clear hS
    clear hS_ hO_ hD
    refine s_gcall (V := .bool true) [.func (.func 31) #[] #[]] ?_ ?_ (by kernel_rfl) (by kernel_rfl) (by kernel_rfl) ?_ ?_
    rotate_left 2
    · intro r_ hr_
      have o0_ : r_ (.func 31) = .func (.func 31) #[] #[] := op_at hr_ 0 (by kernel_rfl) (by kernel_rfl)
      clear hr_
      go_simp; first | done | with_reducible rfl | (constructor <;> with_reducible rfl)
    · refine goes06_any _
  simp only [Act.put, planVG, List.setIfInBounds_toArray, List.set_cons_zero, List.set_cons_succ, List.getElem?_cons_zero, List.getElem?_cons_succ]
  refine ⟨?_, ?_⟩
  · as_aux_lemma =>
    intro y_ hS_ hO_ hD
    clear hS_ hO_ hD
    refine s_gen (V := .bool true) [.bool true, .bool true, .bool false] (by kernel_rfl) (by kernel_rfl) (by kernel_rfl) ?_
    intro r_ hr_
    have o0_ : r_ (.tmp 84) = .bool true := op_at hr_ 0 (by kernel_rfl) (by kernel_rfl)
    have o1_ : r_ (.tmp 85) = .bool true := op_at hr_ 1 (by kernel_rfl) (by kernel_rfl)
    have o2_ : r_ (.const (.bool false)) = .bool false := op_at hr_ 2 (by kernel_rfl) (by kernel_rfl)
    clear hr_
    go_simp; first | done | with_reducible rfl
  simp only [Act.put, planVG, List.setIfInBounds_toArray, List.set_cons_zero, List.set_cons_succ, List.getElem?_cons_zero, List.getElem?_cons_succ]
  refine ⟨?_, ?_⟩
  · as_aux_lemma =>
    intro y_ hS_ hO_ hD
    clear hS_ hO_ hD
    refine s_gen (V := .bool true) [.bool true] (by kernel_rfl) (by kernel_rfl) (by kernel_rfl) ?_
    intro r_ hr_
    have o0_ : r_ (.tmp 86) = .bool true := op_at hr_ 0 (by kernel_rfl) (by kernel_rfl)
    clear hr_
    go_simp; first | done | with_reducible rfl
  simp only [Act.put, planVG, List.setIfInBounds_toArray, List.set_cons_zero, List.set_cons_succ, List.getElem?_cons_zero, List.getElem?_cons_succ]
  as_aux_lemma =>
    intro w8 hS hF hD_
    change wpList _ _ _ _ _ _
    replace hS := sg_no (by decide) hS
    obtain ⟨hk, hZ8, X1, X6, X7, X8⟩ := hS
    clear hF hD_
    clear ρ
    have hz_w8 := hk.size
    have X1l := X1.lt
    have X1f := X1.free
    have X1l1 : w.heap.size < w8.heap.size + 1 := by omega
    have X1l2 : w.heap.size < w8.heap.size + 1 + 1 := by omega
    have X1l3 : w.heap.size < w8.heap.size + 1 + 1 + 1 := by omega
    have X10 := X1.cell 0 _ rfl
    have X11 := X1.cell 1 _ rfl
    have X6l := X6.lt
    have X6f := X6.free
    have X6l1 : w5.heap.size < w8.heap.size + 1 := by omega
    have X6l2 : w5.heap.size < w8.heap.size + 1 + 1 := by omega
    have X6l3 : w5.heap.size < w8.heap.size + 1 + 1 + 1 := by omega
    have X60 := X6.cell 0 _ rfl
    have X61 := X6.cell 1 _ rfl
    have X7l := X7.lt
    have X7f := X7.free
    have X7l1 : w6.heap.size < w8.heap.size + 1 := by omega
    have X7l2 : w6.heap.size < w8.heap.size + 1 + 1 := by omega
    have X7l3 : w6.heap.size < w8.heap.size + 1 + 1 + 1 := by omega
    have X70 := X7.cell 0 _ rfl
    have X71 := X7.cell 1 _ rfl
    have X8l := X8.lt
    have X8f := X8.free
    have X8l1 : w7.heap.size < w8.heap.size + 1 := by omega
    have X8l2 : w7.heap.size < w8.heap.size + 1 + 1 := by omega
    have X8l3 : w7.heap.size < w8.heap.size + 1 + 1 + 1 := by omega
    have X80 := X8.cell 0 _ rfl
    have X81 := X8.cell 1 _ rfl
    go_wp2
    go_ret
    exact ⟨rfl, (by refine Kept.below ?_; repeat (first | with_reducible exact hk | with_reducible exact Kept.refl _ | with_reducible refine Kept.alloc ?_ _ | with_reducible refine Kept.drew ?_ | with_reducible refine Kept.setCell ?_ (by simp only [World.size_alloc, World.size_setCell, World.size_drew]; omega) _))⟩

set_option maxRecDepth 100000 in
set_option maxHeartbeats 8000000 in
theorem RootSquare_big {A S M N P : Nat} (hA : W128 A) (hS : W256 S) (e1 : mulN A A = S) (e2 : rootN S = A) (e3 : exactB S = true) (hM : W256 M) (hN : W256 N) (hP : W128 P) (e4 : add256 S (val4 1 0 0 0) = M) (e5 : rootN M = A) (e6 : exactB M = false) (e7 : sub256 S (val4 1 0 0 0) = N) (e8 : rootN N = P) (e9 : exactB N = false) (e10 : sub128 A (val2 1 0) = P) (c1 : ¬ limb 1 A = 0) (w : World) :
    Calls Try.prog 13 #[bitsV A] w fun e w' => e = .returned (.bool true) ∧ Below w.heap.size w w' := by
  have hk := Kept.refl w
  have HS := Lib.hid e1; have HR := Lib.hid e2; have HX := Lib.hid e3
  have HM := Lib.hid e4; have HMR := Lib.hid e5; have HMX := Lib.hid e6; have HN := Lib.hid e7; have HNR := Lib.hid e8; have HNX := Lib.hid e9; have HP := Lib.hid e10
  clear e4 e5 e6 e7 e8 e9 e10
  clear e1 e2 e3
  go_enter Try.func13, Try.ntmps13
  go_wp2_with fail
  (with_reducible refine (calls_to (V := wideV S) (MulW_at (IsBits.of hA) (IsBits.of hA) _) (by rw [HS.out])).mono ?_)
  rintro e w1 ⟨rfl, hb⟩
  have X1' : Box w1 (w.heap.size) #[.int .u64 (limb 1 A), .int .u64 (limb 0 A)] := Box.call hb (by repeat (first | with_reducible assumption | with_reducible apply Box.set10 | with_reducible apply Box.set20 | with_reducible apply Box.set21 | with_reducible apply Box.set40 | with_reducible apply Box.set41 | with_reducible apply Box.set42 | with_reducible apply Box.set43 | with_reducible apply Box.set50 | with_reducible apply Box.set51 | with_reducible apply Box.set52 | with_reducible apply Box.set53 | with_reducible apply Box.set54 | with_reducible apply Box.drew | (with_reducible apply Box.newAt; (try simp only [World.size_alloc, World.size_setCell, World.size_drew]); done) | with_reducible apply Box.alloc | (with_reducible apply Box.other; case hne => ((try simp only [World.size_alloc, World.size_setCell, World.size_drew]); omega))))
  have hk' : Kept w.heap.size w w1 := Kept.step (by repeat (first | with_reducible exact hk | with_reducible exact Kept.refl _ | with_reducible refine Kept.alloc ?_ _ | with_reducible refine Kept.drew ?_ | with_reducible refine Kept.setCell ?_ (by simp only [World.size_alloc, World.size_setCell, World.size_drew]; omega) _)) hb
  clear hk hb
  have X1 := X1'
  clear X1'
  have hk := hk'
  clear hk'
  have hz_w1 := hk.size
  have X1l := X1.lt
  have X1f := X1.free
  have X1l1 : w.heap.size < w1.heap.size + 1 := by omega
  have X1l2 : w.heap.size < w1.heap.size + 1 + 1 := by omega
  have X1l3 : w.heap.size < w1.heap.size + 1 + 1 + 1 := by omega
  have X10 := X1.cell 0 _ rfl
  have X11 := X1.cell 1 _ rfl
  go_wp2_with fail
  (with_reducible refine (calls_to (V := .tuple #[bitsV A, .bool true]) (Root_at (IsWide.of hS) _) (by rw [HR.out, HX.out])).mono ?_)
  rintro e w2 ⟨rfl, hb⟩
  have X1' : Box w2 (w.heap.size) #[.int .u64 (limb 1 A), .int .u64 (limb 0 A)] := Box.call hb (by repeat (first | with_reducible assumption | with_reducible apply Box.set10 | with_reducible apply Box.set20 | with_reducible apply Box.set21 | with_reducible apply Box.set40 | with_reducible apply Box.set41 | with_reducible apply Box.set42 | with_reducible apply Box.set43 | with_reducible apply Box.set50 | with_reducible apply Box.set51 | with_reducible apply Box.set52 | with_reducible apply Box.set53 | with_reducible apply Box.set54 | with_reducible apply Box.drew | (with_reducible apply Box.newAt; (try simp only [World.size_alloc, World.size_setCell, World.size_drew]); done) | with_reducible apply Box.alloc | (with_reducible apply Box.other; case hne => ((try simp only [World.size_alloc, World.size_setCell, World.size_drew]); omega))))
  have X2' : Box w2 (w1.heap.size) #[.int .u64 (limb 0 S), .int .u64 (limb 1 S), .int .u64 (limb 2 S), .int .u64 (limb 3 S)] := Box.call hb (by repeat (first | with_reducible assumption | with_reducible apply Box.set10 | with_reducible apply Box.set20 | with_reducible apply Box.set21 | with_reducible apply Box.set40 | with_reducible apply Box.set41 | with_reducible apply Box.set42 | with_reducible apply Box.set43 | with_reducible apply Box.set50 | with_reducible apply Box.set51 | with_reducible apply Box.set52 | with_reducible apply Box.set53 | with_reducible apply Box.set54 | with_reducible apply Box.drew | (with_reducible apply Box.newAt; (try simp only [World.size_alloc, World.size_setCell, World.size_drew]); done) | with_reducible apply Box.alloc | (with_reducible apply Box.other; case hne => ((try simp only [World.size_alloc, World.size_setCell, World.size_drew]); omega))))
  have hk' : Kept w.heap.size w w2 := Kept.step (by repeat (first | with_reducible exact hk | with_reducible exact Kept.refl _ | with_reducible refine Kept.alloc ?_ _ | with_reducible refine Kept.drew ?_ | with_reducible refine Kept.setCell ?_ (by simp only [World.size_alloc, World.size_setCell, World.size_drew]; omega) _)) hb
  clear hk hb
  clear X1 X1l1 X1l2 X1l3 X1f X10 X11
  have X1 := X1'
  clear X1'
  have X2 := X2'
  clear X2'
  have hk := hk'
  clear hk'
  have hz_w2 := hk.size
  have X1l := X1.lt
  have X1f := X1.free
  have X1l1 : w.heap.size < w2.heap.size + 1 := by omega
  have X1l2 : w.heap.size < w2.heap.size + 1 + 1 := by omega
  have X1l3 : w.heap.size < w2.heap.size + 1 + 1 + 1 := by omega
  have X10 := X1.cell 0 _ rfl
  have X11 := X1.cell 1 _ rfl
  have X2l := X2.lt
  have X2f := X2.free
  have X2l1 : w1.heap.size < w2.heap.size + 1 := by omega
  have X2l2 : w1.heap.size < w2.heap.size + 1 + 1 := by omega
  have X2l3 : w1.heap.size < w2.heap.size + 1 + 1 + 1 := by omega
  have X20 := X2.cell 0 _ rfl
  have X21 := X2.cell 1 _ rfl
  have X22 := X2.cell 2 _ rfl
  have X23 := X2.cell 3 _ rfl
  go_wp2_with fail
  (with_reducible refine (calls_to (V := .tuple #[wideV M, .bool (carry256 S (val4 1 0 0 0))]) (AddW_at (IsWide.of hS) (IsWide.val (isU64_mk (by decide +kernel)) u64_zero u64_zero u64_zero) _) (by rw [HM.out])).mono ?_)
  rintro e w3 ⟨rfl, hb⟩
  have X1' : Box w3 (w.heap.size) #[.int .u64 (limb 1 A), .int .u64 (limb 0 A)] := Box.call hb (by repeat (first | with_reducible assumption | with_reducible apply Box.set10 | with_reducible apply Box.set20 | with_reducible apply Box.set21 | with_reducible apply Box.set40 | with_reducible apply Box.set41 | with_reducible apply Box.set42 | with_reducible apply Box.set43 | with_reducible apply Box.set50 | with_reducible apply Box.set51 | with_reducible apply Box.set52 | with_reducible apply Box.set53 | with_reducible apply Box.set54 | with_reducible apply Box.drew | (with_reducible apply Box.newAt; (try simp only [World.size_alloc, World.size_setCell, World.size_drew]); done) | with_reducible apply Box.alloc | (with_reducible apply Box.other; case hne => ((try simp only [World.size_alloc, World.size_setCell, World.size_drew]); omega))))
  have X2' : Box w3 (w1.heap.size) #[.int .u64 (limb 0 S), .int .u64 (limb 1 S), .int .u64 (limb 2 S), .int .u64 (limb 3 S)] := Box.call hb (by repeat (first | with_reducible assumption | with_reducible apply Box.set10 | with_reducible apply Box.set20 | with_reducible apply Box.set21 | with_reducible apply Box.set40 | with_reducible apply Box.set41 | with_reducible apply Box.set42 | with_reducible apply Box.set43 | with_reducible apply Box.set50 | with_reducible apply Box.set51 | with_reducible apply Box.set52 | with_reducible apply Box.set53 | with_reducible apply Box.set54 | with_reducible apply Box.drew | (with_reducible apply Box.newAt; (try simp only [World.size_alloc, World.size_setCell, World.size_drew]); done) | with_reducible apply Box.alloc | (with_reducible apply Box.other; case hne => ((try simp only [World.size_alloc, World.size_setCell, World.size_drew]); omega))))
  have hk' : Kept w.heap.size w w3 := Kept.step (by repeat (first | with_reducible exact hk | with_reducible exact Kept.refl _ | with_reducible refine Kept.alloc ?_ _ | with_reducible refine Kept.drew ?_ | with_reducible refine Kept.setCell ?_ (by simp only [World.size_alloc, World.size_setCell, World.size_drew]; omega) _)) hb
  clear hk hb
  clear X1 X1l1 X1l2 X1l3 X1f X10 X11
  clear X2 X2l1 X2l2 X2l3 X2f X20 X21 X22 X23
  have X1 := X1'
  clear X1'
  have X2 := X2'
  clear X2'
  have hk := hk'
  clear hk'
  have hz_w3 := hk.size
  have X1l := X1.lt
  have X1f := X1.free
  have X1l1 : w.heap.size < w3.heap.size + 1 := by omega
  have X1l2 : w.heap.size < w3.heap.size + 1 + 1 := by omega
  have X1l3 : w.heap.size < w3.heap.size + 1 + 1 + 1 := by omega
  have X10 := X1.cell 0 _ rfl
  have X11 := X1.cell 1 _ rfl
  have X2l := X2.lt
  have X2f := X2.free
  have X2l1 : w1.heap.size < w3.heap.size + 1 := by omega
  have X2l2 : w1.heap.size < w3.heap.size + 1 + 1 := by omega
  have X2l3 : w1.heap.size < w3.heap.size + 1 + 1 + 1 := by omega
  have X20 := X2.cell 0 _ rfl
  have X21 := X2.cell 1 _ rfl
  have X22 := X2.cell 2 _ rfl
  have X23 := X2.cell 3 _ rfl
  go_wp2_with fail
  (with_reducible refine (calls_to (V := .tuple #[wideV N, .bool (ltB S (val4 1 0 0 0))]) (SubW_at (IsWide.of hS) (IsWide.val (isU64_mk (by decide +kernel)) u64_zero u64_zero u64_zero) _) (by rw [HN.out])).mono ?_)
  rintro e w4 ⟨rfl, hb⟩
  have X1' : Box w4 (w.heap.size) #[.int .u64 (limb 1 A), .int .u64 (limb 0 A)] := Box.call hb (by repeat (first | with_reducible assumption | with_reducible apply Box.set10 | with_reducible apply Box.set20 | with_reducible apply Box.set21 | with_reducible apply Box.set40 | with_reducible apply Box.set41 | with_reducible apply Box.set42 | with_reducible apply Box.set43 | with_reducible apply Box.set50 | with_reducible apply Box.set51 | with_reducible apply Box.set52 | with_reducible apply Box.set53 | with_reducible apply Box.set54 | with_reducible apply Box.drew | (with_reducible apply Box.newAt; (try simp only [World.size_alloc, World.size_setCell, World.size_drew]); done) | with_reducible apply Box.alloc | (with_reducible apply Box.other; case hne => ((try simp only [World.size_alloc, World.size_setCell, World.size_drew]); omega))))
  have X4' : Box w4 (w3.heap.size) #[.int .u64 (limb 0 M), .int .u64 (limb 1 M), .int .u64 (limb 2 M), .int .u64 (limb 3 M)] := Box.call hb (by repeat (first | with_reducible assumption | with_reducible apply Box.set10 | with_reducible apply Box.set20 | with_reducible apply Box.set21 | with_reducible apply Box.set40 | with_reducible apply Box.set41 | with_reducible apply Box.set42 | with_reducible apply Box.set43 | with_reducible apply Box.set50 | with_reducible apply Box.set51 | with_reducible apply Box.set52 | with_reducible apply Box.set53 | with_reducible apply Box.set54 | with_reducible apply Box.drew | (with_reducible apply Box.newAt; (try simp only [World.size_alloc, World.size_setCell, World.size_drew]); done) | with_reducible apply Box.alloc | (with_reducible apply Box.other; case hne => ((try simp only [World.size_alloc, World.size_setCell, World.size_drew]); omega))))
  have hk' : Kept w.heap.size w w4 := Kept.step (by repeat (first | with_reducible exact hk | with_reducible exact Kept.refl _ | with_reducible refine Kept.alloc ?_ _ | with_reducible refine Kept.drew ?_ | with_reducible refine Kept.setCell ?_ (by simp only [World.size_alloc, World.size_setCell, World.size_drew]; omega) _)) hb
  clear hk hb
  clear X1 X1l1 X1l2 X1l3 X1f X10 X11
  clear X2 X2l1 X2l2 X2l3 X2f X20 X21 X22 X23
  have X1 := X1'
  clear X1'
  have X4 := X4'
  clear X4'
  have hk := hk'
  clear hk'
  have hz_w4 := hk.size
  have X1l := X1.lt
  have X1f := X1.free
  have X1l1 : w.heap.size < w4.heap.size + 1 := by omega
  have X1l2 : w.heap.size < w4.heap.size + 1 + 1 := by omega
  have X1l3 : w.heap.size < w4.heap.size + 1 + 1 + 1 := by omega
  have X10 := X1.cell 0 _ rfl
  have X11 := X1.cell 1 _ rfl
  have X4l := X4.lt
  have X4f := X4.free
  have X4l1 : w3.heap.size < w4.heap.size + 1 := by omega
  have X4l2 : w3.heap.size < w4.heap.size + 1 + 1 := by omega
  have X4l3 : w3.heap.size < w4.heap.size + 1 + 1 + 1 := by omega
  have X40 := X4.cell 0 _ rfl
  have X41 := X4.cell 1 _ rfl
  have X42 := X4.cell 2 _ rfl
  have X43 := X4.cell 3 _ rfl
  go_wp2_with fail
  (with_reducible refine (calls_to (V := .tuple #[bitsV A, .bool false]) (Root_at (IsWide.of hM) _) (by rw [HMR.out, HMX.out])).mono ?_)
  rintro e w5 ⟨rfl, hb⟩
  have X1' : Box w5 (w.heap.size) #[.int .u64 (limb 1 A), .int .u64 (limb 0 A)] := Box.call hb (by repeat (first | with_reducible assumption | with_reducible apply Box.set10 | with_reducible apply Box.set20 | with_reducible apply Box.set21 | with_reducible apply Box.set40 | with_reducible apply Box.set41 | with_reducible apply Box.set42 | with_reducible apply Box.set43 | with_reducible apply Box.set50 | with_reducible apply Box.set51 | with_reducible apply Box.set52 | with_reducible apply Box.set53 | with_reducible apply Box.set54 | with_reducible apply Box.drew | (with_reducible apply Box.newAt; (try simp only [World.size_alloc, World.size_setCell, World.size_drew]); done) | with_reducible apply Box.alloc | (with_reducible apply Box.other; case hne => ((try simp only [World.size_alloc, World.size_setCell, World.size_drew]); omega))))
  have X5' : Box w5 (w4.heap.size) #[.int .u64 (limb 0 N), .int .u64 (limb 1 N), .int .u64 (limb 2 N), .int .u64 (limb 3 N)] := Box.call hb (by repeat (first | with_reducible assumption | with_reducible apply Box.set10 | with_reducible apply Box.set20 | with_reducible apply Box.set21 | with_reducible apply Box.set40 | with_reducible apply Box.set41 | with_reducible apply Box.set42 | with_reducible apply Box.set43 | with_reducible apply Box.set50 | with_reducible apply Box.set51 | with_reducible apply Box.set52 | with_reducible apply Box.set53 | with_reducible apply Box.set54 | with_reducible apply Box.drew | (with_reducible apply Box.newAt; (try simp only [World.size_alloc, World.size_setCell, World.size_drew]); done) | with_reducible apply Box.alloc | (with_reducible apply Box.other; case hne => ((try simp only [World.size_alloc, World.size_setCell, World.size_drew]); omega))))
  have hk' : Kept w.heap.size w w5 := Kept.step (by repeat (first | with_reducible exact hk | with_reducible exact Kept.refl _ | with_reducible refine Kept.alloc ?_ _ | with_reducible refine Kept.drew ?_ | with_reducible refine Kept.setCell ?_ (by simp only [World.size_alloc, World.size_setCell, World.size_drew]; omega) _)) hb
  clear hk hb
  clear X1 X1l1 X1l2 X1l3 X1f X10 X11
  clear X4 X4l1 X4l2 X4l3 X4f X40 X41 X42 X43
  have X1 := X1'
  clear X1'
  have X5 := X5'
  clear X5'
  have hk := hk'
  clear hk'
  have hz_w5 := hk.size
  have X1l := X1.lt
  have X1f := X1.free
  have X1l1 : w.heap.size < w5.heap.size + 1 := by omega
  have X1l2 : w.heap.size < w5.heap.size + 1 + 1 := by omega
  have X1l3 : w.heap.size < w5.heap.size + 1 + 1 + 1 := by omega
  have X10 := X1.cell 0 _ rfl
  have X11 := X1.cell 1 _ rfl
  have X5l := X5.lt
  have X5f := X5.free
  have X5l1 : w4.heap.size < w5.heap.size + 1 := by omega
  have X5l2 : w4.heap.size < w5.heap.size + 1 + 1 := by omega
  have X5l3 : w4.heap.size < w5.heap.size + 1 + 1 + 1 := by omega
  have X50 := X5.cell 0 _ rfl
  have X51 := X5.cell 1 _ rfl
  have X52 := X5.cell 2 _ rfl
  have X53 := X5.cell 3 _ rfl
  go_wp2_with fail
  (with_reducible refine (calls_to (V := .tuple #[bitsV P, .bool false]) (Root_at (IsWide.of hN) _) (by rw [HNR.out, HNX.out])).mono ?_)
  rintro e w6 ⟨rfl, hb⟩
  have X1' : Box w6 (w.heap.size) #[.int .u64 (limb 1 A), .int .u64 (limb 0 A)] := Box.call hb (by repeat (first | with_reducible assumption | with_reducible apply Box.set10 | with_reducible apply Box.set20 | with_reducible apply Box.set21 | with_reducible apply Box.set40 | with_reducible apply Box.set41 | with_reducible apply Box.set42 | with_reducible apply Box.set43 | with_reducible apply Box.set50 | with_reducible apply Box.set51 | with_reducible apply Box.set52 | with_reducible apply Box.set53 | with_reducible apply Box.set54 | with_reducible apply Box.drew | (with_reducible apply Box.newAt; (try simp only [World.size_alloc, World.size_setCell, World.size_drew]); done) | with_reducible apply Box.alloc | (with_reducible apply Box.other; case hne => ((try simp only [World.size_alloc, World.size_setCell, World.size_drew]); omega))))
  have X6' : Box w6 (w5.heap.size) #[.int .u64 (limb 1 A), .int .u64 (limb 0 A)] := Box.call hb (by repeat (first | with_reducible assumption | with_reducible apply Box.set10 | with_reducible apply Box.set20 | with_reducible apply Box.set21 | with_reducible apply Box.set40 | with_reducible apply Box.set41 | with_reducible apply Box.set42 | with_reducible apply Box.set43 | with_reducible apply Box.set50 | with_reducible apply Box.set51 | with_reducible apply Box.set52 | with_reducible apply Box.set53 | with_reducible apply Box.set54 | with_reducible apply Box.drew | (with_reducible apply Box.newAt; (try simp only [World.size_alloc, World.size_setCell, World.size_drew]); done) | with_reducible apply Box.alloc | (with_reducible apply Box.other; case hne => ((try simp only [World.size_alloc, World.size_setCell, World.size_drew]); omega))))
  have hk' : Kept w.heap.size w w6 := Kept.step (by repeat (first | with_reducible exact hk | with_reducible exact Kept.refl _ | with_reducible refine Kept.alloc ?_ _ | with_reducible refine Kept.drew ?_ | with_reducible refine Kept.setCell ?_ (by simp only [World.size_alloc, World.size_setCell, World.size_drew]; omega) _)) hb
  clear hk hb
  clear X1 X1l1 X1l2 X1l3 X1f X10 X11
  clear X5 X5l1 X5l2 X5l3 X5f X50 X51 X52 X53
  have X1 := X1'
  clear X1'
  have X6 := X6'
  clear X6'
  have hk := hk'
  clear hk'
  have hz_w6 := hk.size
  have X1l := X1.lt
  have X1f := X1.free
  have X1l1 : w.heap.size < w6.heap.size + 1 := by omega
  have X1l2 : w.heap.size < w6.heap.size + 1 + 1 := by omega
  have X1l3 : w.heap.size < w6.heap.size + 1 + 1 + 1 := by omega
  have X10 := X1.cell 0 _ rfl
  have X11 := X1.cell 1 _ rfl
  have X6l := X6.lt
  have X6f := X6.free
  have X6l1 : w5.heap.size < w6.heap.size + 1 := by omega
  have X6l2 : w5.heap.size < w6.heap.size + 1 + 1 := by omega
  have X6l3 : w5.heap.size < w6.heap.size + 1 + 1 + 1 := by omega
  have X60 := X6.cell 0 _ rfl
  have X61 := X6.cell 1 _ rfl
  go_wp2_with fail
  (with_reducible refine (calls_to (V := .tuple #[bitsV P, .bool (ltB A (val2 1 0))]) (Sub_at (IsBits.of hA) (IsBits.val u64_zero (isU64_mk (by decide +kernel))) _) (by rw [HP.out])).mono ?_)
  rintro e w7 ⟨rfl, hb⟩
  have X1' : Box w7 (w.heap.size) #[.int .u64 (limb 1 A), .int .u64 (limb 0 A)] := Box.call hb (by repeat (first | with_reducible assumption | with_reducible apply Box.set10 | with_reducible apply Box.set20 | with_reducible apply Box.set21 | with_reducible apply Box.set40 | with_reducible apply Box.set41 | with_reducible apply Box.set42 | with_reducible apply Box.set43 | with_reducible apply Box.set50 | with_reducible apply Box.set51 | with_reducible apply Box.set52 | with_reducible apply Box.set53 | with_reducible apply Box.set54 | with_reducible apply Box.drew | (with_reducible apply Box.newAt; (try simp only [World.size_alloc, World.size_setCell, World.size_drew]); done) | with_reducible apply Box.alloc | (with_reducible apply Box.other; case hne => ((try simp only [World.size_alloc, World.size_setCell, World.size_drew]); omega))))
  have X6' : Box w7 (w5.heap.size) #[.int .u64 (limb 1 A), .int .u64 (limb 0 A)] := Box.call hb (by repeat (first | with_reducible assumption | with_reducible apply Box.set10 | with_reducible apply Box.set20 | with_reducible apply Box.set21 | with_reducible apply Box.set40 | with_reducible apply Box.set41 | with_reducible apply Box.set42 | with_reducible apply Box.set43 | with_reducible apply Box.set50 | with_reducible apply Box.set51 | with_reducible apply Box.set52 | with_reducible apply Box.set53 | with_reducible apply Box.set54 | with_reducible apply Box.drew | (with_reducible apply Box.newAt; (try simp only [World.size_alloc, World.size_setCell, World.size_drew]); done) | with_reducible apply Box.alloc | (with_reducible apply Box.other; case hne => ((try simp only [World.size_alloc, World.size_setCell, World.size_drew]); omega))))
  have X7' : Box w7 (w6.heap.size) #[.int .u64 (limb 1 P), .int .u64 (limb 0 P)] := Box.call hb (by repeat (first | with_reducible assumption | with_reducible apply Box.set10 | with_reducible apply Box.set20 | with_reducible apply Box.set21 | with_reducible apply Box.set40 | with_reducible apply Box.set41 | with_reducible apply Box.set42 | with_reducible apply Box.set43 | with_reducible apply Box.set50 | with_reducible apply Box.set51 | with_reducible apply Box.set52 | with_reducible apply Box.set53 | with_reducible apply Box.set54 | with_reducible apply Box.drew | (with_reducible apply Box.newAt; (try simp only [World.size_alloc, World.size_setCell, World.size_drew]); done) | with_reducible apply Box.alloc | (with_reducible apply Box.other; case hne => ((try simp only [World.size_alloc, World.size_setCell, World.size_drew]); omega))))
  have hk' : Kept w.heap.size w w7 := Kept.step (by repeat (first | with_reducible exact hk | with_reducible exact Kept.refl _ | with_reducible refine Kept.alloc ?_ _ | with_reducible refine Kept.drew ?_ | with_reducible refine Kept.setCell ?_ (by simp only [World.size_alloc, World.size_setCell, World.size_drew]; omega) _)) hb
  clear hk hb
  clear X1 X1l1 X1l2 X1l3 X1f X10 X11
  clear X6 X6l1 X6l2 X6l3 X6f X60 X61
  have X1 := X1'
  clear X1'
  have X6 := X6'
  clear X6'
  have X7 := X7'
  clear X7'
  have hk := hk'
  clear hk'
  have hz_w7 := hk.size
  have X1l := X1.lt
  have X1f := X1.free
  have X1l1 : w.heap.size < w7.heap.size + 1 := by omega
  have X1l2 : w.heap.size < w7.heap.size + 1 + 1 := by omega
  have X1l3 : w.heap.size < w7.heap.size + 1 + 1 + 1 := by omega
  have X10 := X1.cell 0 _ rfl
  have X11 := X1.cell 1 _ rfl
  have X6l := X6.lt
  have X6f := X6.free
  have X6l1 : w5.heap.size < w7.heap.size + 1 := by omega
  have X6l2 : w5.heap.size < w7.heap.size + 1 + 1 := by omega
  have X6l3 : w5.heap.size < w7.heap.size + 1 + 1 + 1 := by omega
  have X60 := X6.cell 0 _ rfl
  have X61 := X6.cell 1 _ rfl
  have X7l := X7.lt
  have X7f := X7.free
  have X7l1 : w6.heap.size < w7.heap.size + 1 := by omega
  have X7l2 : w6.heap.size < w7.heap.size + 1 + 1 := by omega
  have X7l3 : w6.heap.size < w7.heap.size + 1 + 1 + 1 := by omega
  have X70 := X7.cell 0 _ rfl
  have X71 := X7.cell 1 _ rfl
  go_upto_region 12 with fail
  refine wp_region_p 20 (fun W' => Kept w.heap.size w W' ∧ w7.heap.size + 1 ≤ W'.heap.size ∧ Box W' (w.heap.size) #[.int .u64 (limb 1 A), .int .u64 (limb 0 A)] ∧ Box W' (w5.heap.size) #[.int .u64 (limb 1 A), .int .u64 (limb 0 A)] ∧ Box W' (w6.heap.size) #[.int .u64 (limb 1 P), .int .u64 (limb 0 P)] ∧ Box W' (w7.heap.size) #[.int .u64 (limb 1 P), .int .u64 (limb 0 P)]) (fun W' => Kept w.heap.size w W' ∧ w7.heap.size + 1 ≤ W'.heap.size ∧ Box W' (w.heap.size) #[.int .u64 (limb 1 A), .int .u64 (limb 0 A)] ∧ Box W' (w5.heap.size) #[.int .u64 (limb 1 A), .int .u64 (limb 0 A)] ∧ Box W' (w6.heap.size) #[.int .u64 (limb 1 P), .int .u64 (limb 0 P)] ∧ Box W' (w7.heap.size) #[.int .u64 (limb 1 P), .int .u64 (limb 0 P)]) 1000 (w7.heap.size + 1) [.known (bitsV A), .known (bitsV A), .known (.bool true), .known (.bool true), .known (.bool false), .known (.bool true), .known (.bool true), .known (.bool true), .known (bitsV P), .known (bitsV P), .known (.bool true), .known (.bool true), .known (.bool true), .known (.bool false), .known (.bool true), .known (.bool true), .known (.bool true), .known (.bool true), .known (.bool true), .known (.bool true)] (by kernel_rfl) (by kernel_rfl) (fun W W' h hb => ⟨h.1.step hb, Nat.le_trans (h.2.1) hb.size, Box.call hb (h.2.2.1), Box.call hb (h.2.2.2.1), Box.call hb (h.2.2.2.2.1), Box.call hb (h.2.2.2.2.2)⟩) (fun W W' h hb => ⟨h.1.step hb, Nat.le_trans (h.2.1) hb.size, Box.call hb (h.2.2.1), Box.call hb (h.2.2.2.1), Box.call hb (h.2.2.2.2.1), Box.call hb (h.2.2.2.2.2)⟩) (no_out (of_decide_eq_true (by kernel_rfl))) (.inl (by kernel_rfl)) (.inl (by kernel_rfl)) (fun _ h => h.2.1) (fun _ h => h.2.1) (⟨(by repeat (first | with_reducible exact hk | with_reducible exact Kept.refl _ | with_reducible refine Kept.alloc ?_ _ | with_reducible refine Kept.drew ?_ | with_reducible refine Kept.setCell ?_ (by simp only [World.size_alloc, World.size_setCell, World.size_drew]; omega) _)), (by (try simp only [World.size_alloc, World.size_setCell, World.size_drew]); omega), (by repeat (first | with_reducible assumption | with_reducible apply Box.set10 | with_reducible apply Box.set20 | with_reducible apply Box.set21 | with_reducible apply Box.set40 | with_reducible apply Box.set41 | with_reducible apply Box.set42 | with_reducible apply Box.set43 | with_reducible apply Box.set50 | with_reducible apply Box.set51 | with_reducible apply Box.set52 | with_reducible apply Box.set53 | with_reducible apply Box.set54 | with_reducible apply Box.drew | (with_reducible apply Box.newAt; (try simp only [World.size_alloc, World.size_setCell, World.size_drew]); done) | with_reducible apply Box.alloc | (with_reducible apply Box.other; case hne => ((try simp only [World.size_alloc, World.size_setCell, World.size_drew]); omega)))), (by repeat (first | with_reducible assumption | with_reducible apply Box.set10 | with_reducible apply Box.set20 | with_reducible apply Box.set21 | with_reducible apply Box.set40 | with_reducible apply Box.set41 | with_reducible apply Box.set42 | with_reducible apply Box.set43 | with_reducible apply Box.set50 | with_reducible apply Box.set51 | with_reducible apply Box.set52 | with_reducible apply Box.set53 | with_reducible apply Box.set54 | with_reducible apply Box.drew | (with_reducible apply Box.newAt; (try simp only [World.size_alloc, World.size_setCell, World.size_drew]); done) | with_reducible apply Box.alloc | (with_reducible apply Box.other; case hne => ((try simp only [World.size_alloc, World.size_setCell, World.size_drew]); omega)))), (by repeat (first | with_reducible assumption | with_reducible apply Box.set10 | with_reducible apply Box.set20 | with_reducible apply Box.set21 | with_reducible apply Box.set40 | with_reducible apply Box.set41 | with_reducible apply Box.set42 | with_reducible apply Box.set43 | with_reducible apply Box.set50 | with_reducible apply Box.set51 | with_reducible apply Box.set52 | with_reducible apply Box.set53 | with_reducible apply Box.set54 | with_reducible apply Box.drew | (with_reducible apply Box.newAt; (try simp only [World.size_alloc, World.size_setCell, World.size_drew]); done) | with_reducible apply Box.alloc | (with_reducible apply Box.other; case hne => ((try simp only [World.size_alloc, World.size_setCell, World.size_drew]); omega)))), (by repeat (first | with_reducible assumption | with_reducible apply Box.set10 | with_reducible apply Box.set20 | with_reducible apply Box.set21 | with_reducible apply Box.set40 | with_reducible apply Box.set41 | with_reducible apply Box.set42 | with_reducible apply Box.set43 | with_reducible apply Box.set50 | with_reducible apply Box.set51 | with_reducible apply Box.set52 | with_reducible apply Box.set53 | with_reducible apply Box.set54 | with_reducible apply Box.drew | (with_reducible apply Box.newAt; (try simp only [World.size_alloc, World.size_setCell, World.size_drew]); done) | with_reducible apply Box.alloc | (with_reducible apply Box.other; case hne => ((try simp only [World.size_alloc, World.size_setCell, World.size_drew]); omega))))⟩) ?_
  clear hk
  clear X1 X1l1 X1l2 X1l3 X1f X10 X11
  clear X6 X6l1 X6l2 X6l3 X6f X60 X61
  clear X7 X7l1 X7l2 X7l3 X7f X70 X71
  intro ρ
  simp only [List.take_succ_cons, List.take_zero, List.drop_succ_cons, List.drop_zero]
  refine ⟨?_, ?_⟩
  · as_aux_lemma =>
    intro y_ hS_ hO_ hD
    have Q := ((hS_ (by rfl)).2.2.2.1).cell
    have q0 := Q 0 _ rfl
    have q1 := Q 1 _ rfl
    clear Q hS_ hO_ hD
    refine s_gen (V := bitsV A) [.pointer (some ⟨w5.heap.size, 0, none⟩)] (by kernel_rfl) (by kernel_rfl) (by kernel_rfl) ?_
    intro r_ hr_
    have o0_ : r_ (.tmp 10) = .pointer (some ⟨w5.heap.size, 0, none⟩) := op_at hr_ 0 (by kernel_rfl) (by kernel_rfl)
    clear hr_
    go_simp; first | done | with_reducible rfl
  simp only [Act.put, planVG, List.setIfInBounds_toArray, List.set_cons_zero, List.set_cons_succ, List.getElem?_cons_zero, List.getElem?_cons_succ]
  refine ⟨?_, ?_⟩
  · as_aux_lemma =>
    intro y_ hS_ hO_ hD
    have Q := ((hS_ (by rfl)).2.2.1).cell
    have q0 := Q 0 _ rfl
    have q1 := Q 1 _ rfl
    clear Q hS_ hO_ hD
    refine s_gen (V := bitsV A) [.pointer (some ⟨w.heap.size, 0, none⟩)] (by kernel_rfl) (by kernel_rfl) (by kernel_rfl) ?_
    intro r_ hr_
    have o0_ : r_ (.tmp 1) = .pointer (some ⟨w.heap.size, 0, none⟩) := op_at hr_ 0 (by kernel_rfl) (by kernel_rfl)
    clear hr_
    go_simp; first | done | with_reducible rfl
  simp only [Act.put, planVG, List.setIfInBounds_toArray, List.set_cons_zero, List.set_cons_succ, List.getElem?_cons_zero, List.getElem?_cons_succ]
  refine ⟨?_, ?_⟩
  · as_aux_lemma =>
    intro y_ hS_ hO_ hD
    clear hS_ hO_ hD
    refine s_gen (V := .bool true) [bitsV A, bitsV A] (by kernel_rfl) (by kernel_rfl) (by kernel_rfl) ?_
    intro r_ hr_
    have o0_ : r_ (.tmp 68) = bitsV A := op_at hr_ 0 (by kernel_rfl) (by kernel_rfl)
    have o1_ : r_ (.tmp 69) = bitsV A := op_at hr_ 1 (by kernel_rfl) (by kernel_rfl)
    clear hr_
    go_simp; first | done | with_reducible rfl
  simp only [Act.put, planVG, List.setIfInBounds_toArray, List.set_cons_zero, List.set_cons_succ, List.getElem?_cons_zero, List.getElem?_cons_succ]
  refine ⟨?_, ?_⟩
  · as_aux_lemma =>
    intro y_ hS_ hO_ hD
    clear hS_ hO_ hD
    refine s_gen (V := .bool true) [.bool true] (by kernel_rfl) (by kernel_rfl) (by kernel_rfl) ?_
    intro r_ hr_
    have o0_ : r_ (.tmp 70) = .bool true := op_at hr_ 0 (by kernel_rfl) (by kernel_rfl)
    clear hr_
    go_simp; first | done | with_reducible rfl
  simp only [Act.put, planVG, List.setIfInBounds_toArray, List.set_cons_zero, List.set_cons_succ, List.getElem?_cons_zero, List.getElem?_cons_succ]
  refine ⟨?_, ?_⟩
  · as_aux_lemma =>
    intro y_ hS_ hO_ hD
    clear hS_ hO_ hD
    refine s_gen (V := .bool false) [.bool false] (by kernel_rfl) (by kernel_rfl) (by kernel_rfl) ?_
    intro r_ hr_
    have o0_ : r_ (.tmp 11) = .bool false := op_at hr_ 0 (by kernel_rfl) (by kernel_rfl)
    clear hr_
    go_simp; first | done | with_reducible rfl
  simp only [Act.put, planVG, List.setIfInBounds_toArray, List.set_cons_zero, List.set_cons_succ, List.getElem?_cons_zero, List.getElem?_cons_succ]
  refine ⟨?_, ?_⟩
  · as_aux_lemma =>
    intro y_ hS_ hO_ hD
    clear hS_ hO_ hD
    refine s_gen (V := .bool true) [.bool false] (by kernel_rfl) (by kernel_rfl) (by kernel_rfl) ?_
    intro r_ hr_
    have o0_ : r_ (.tmp 72) = .bool false := op_at hr_ 0 (by kernel_rfl) (by kernel_rfl)
    clear hr_
    go_simp; first | done | with_reducible rfl
  simp only [Act.put, planVG, List.setIfInBounds_toArray, List.set_cons_zero, List.set_cons_succ, List.getElem?_cons_zero, List.getElem?_cons_succ]
  refine ⟨?_, ?_⟩
  · as_aux_lemma =>
    intro y_ hS_ hO_ hD
    clear hS_ hO_ hD
    refine s_gen (V := .bool true) [.bool true, .bool true, .bool false] (by kernel_rfl) (by kernel_rfl) (by kernel_rfl) ?_
    intro r_ hr_
    have o0_ : r_ (.tmp 71) = .bool true := op_at hr_ 0 (by kernel_rfl) (by kernel_rfl)
    have o1_ : r_ (.tmp 73) = .bool true := op_at hr_ 1 (by kernel_rfl) (by kernel_rfl)
    have o2_ : r_ (.const (.bool false)) = .bool false := op_at hr_ 2 (by kernel_rfl) (by kernel_rfl)
    clear hr_
    go_simp; first | done | with_reducible rfl
  simp only [Act.put, planVG, List.setIfInBounds_toArray, List.set_cons_zero, List.set_cons_succ, List.getElem?_cons_zero, List.getElem?_cons_succ]
  refine ⟨?_, ?_⟩
  · as_aux_lemma =>
    intro y_ hS_ hO_ hD
    clear hS_ hO_ hD
    refine s_gen (V := .bool true) [.bool true] (by kernel_rfl) (by kernel_rfl) (by kernel_rfl) ?_
    intro r_ hr_
    have o0_ : r_ (.tmp 74) = .bool true := op_at hr_ 0 (by kernel_rfl) (by kernel_rfl)
    clear hr_
    go_simp; first | done | with_reducible rfl
  simp only [Act.put, planVG, List.setIfInBounds_toArray, List.set_cons_zero, List.set_cons_succ, List.getElem?_cons_zero, List.getElem?_cons_succ]
  refine ⟨?_, ?_⟩
  · as_aux_lemma =>
    intro y_ hS_ hO_ hD
    have Q := ((hS_ (by rfl)).2.2.2.2.1).cell
    have q0 := Q 0 _ rfl
    have q1 := Q 1 _ rfl
    clear Q hS_ hO_ hD
    refine s_gen (V := bitsV P) [.pointer (some ⟨w6.heap.size, 0, none⟩)] (by kernel_rfl) (by kernel_rfl) (by kernel_rfl) ?_
    intro r_ hr_
    have o0_ : r_ (.tmp 12) = .pointer (some ⟨w6.heap.size, 0, none⟩) := op_at hr_ 0 (by kernel_rfl) (by kernel_rfl)
    clear hr_
    go_simp; first | done | with_reducible rfl
  simp only [Act.put, planVG, List.setIfInBounds_toArray, List.set_cons_zero, List.set_cons_succ, List.getElem?_cons_zero, List.getElem?_cons_succ]
  refine ⟨?_, ?_⟩
  · as_aux_lemma =>
    intro y_ hS_ hO_ hD
    have Q := ((hS_ (by rfl)).2.2.2.2.2).cell
    have q0 := Q 0 _ rfl
    have q1 := Q 1 _ rfl
    clear Q hS_ hO_ hD
    refine s_gen (V := bitsV P) [.pointer (some ⟨w7.heap.size, 0, none⟩)] (by kernel_rfl) (by kernel_rfl) (by kernel_rfl) ?_
    intro r_ hr_
    have o0_ : r_ (.tmp 14) = .pointer (some ⟨w7.heap.size, 0, none⟩) := op_at hr_ 0 (by kernel_rfl) (by kernel_rfl)
    clear hr_
    go_simp; first | done | with_reducible rfl
  simp only [Act.put, planVG, List.setIfInBounds_toArray, List.set_cons_zero, List.set_cons_succ, List.getElem?_cons_zero, List.getElem?_cons_succ]
  refine ⟨?_, ?_⟩
  · as_aux_lemma =>
    intro y_ hS_ hO_ hD
    clear hS_ hO_ hD
    refine s_gen (V := .bool true) [bitsV P, bitsV P] (by kernel_rfl) (by kernel_rfl) (by kernel_rfl) ?_
    intro r_ hr_
    have o0_ : r_ (.tmp 76) = bitsV P := op_at hr_ 0 (by kernel_rfl) (by kernel_rfl)
    have o1_ : r_ (.tmp 77) = bitsV P := op_at hr_ 1 (by kernel_rfl) (by kernel_rfl)
    clear hr_
    go_simp; first | done | with_reducible rfl
  simp only [Act.put, planVG, List.setIfInBounds_toArray, List.set_cons_zero, List.set_cons_succ, List.getElem?_cons_zero, List.getElem?_cons_succ]
  refine ⟨?_, ?_⟩
  · as_aux_lemma =>
    intro y_ hS_ hO_ hD
    clear hS_ hO_ hD
    refine s_gen (V := .bool true) [.bool true, .bool true, .bool false] (by kernel_rfl) (by kernel_rfl) (by kernel_rfl) ?_
    intro r_ hr_
    have o0_ : r_ (.tmp 75) = .bool true := op_at hr_ 0 (by kernel_rfl) (by kernel_rfl)
    have o1_ : r_ (.tmp 78) = .bool true := op_at hr_ 1 (by kernel_rfl) (by kernel_rfl)
    have o2_ : r_ (.const (.bool false)) = .bool false := op_at hr_ 2 (by kernel_rfl) (by kernel_rfl)
    clear hr_
    go_simp; first | done | with_reducible rfl
  simp only [Act.put, planVG, List.setIfInBounds_toArray, List.set_cons_zero, List.set_cons_succ, List.getElem?_cons_zero, List.getElem?_cons_succ]
  refine ⟨?_, ?_⟩
  · as_aux_lemma =>
    intro y_ hS_ hO_ hD
    clear hS_ hO_ hD
    refine s_gen (V := .bool true) [.bool true] (by kernel_rfl) (by kernel_rfl) (by kernel_rfl) ?_
    intro r_ hr_
    have o0_ : r_ (.tmp 79) = .bool true := op_at hr_ 0 (by kernel_rfl) (by kernel_rfl)
    clear hr_
    go_simp; first | done | with_reducible rfl
  simp only [Act.put, planVG, List.setIfInBounds_toArray, List.set_cons_zero, List.set_cons_succ, List.getElem?_cons_zero, List.getElem?_cons_succ]
  refine ⟨?_, ?_⟩
  · as_aux_lemma =>
    intro y_ hS_ hO_ hD
    clear hS_ hO_ hD
    refine s_gen (V := .bool false) [.bool false] (by kernel_rfl) (by kernel_rfl) (by kernel_rfl) ?_
    intro r_ hr_
    have o0_ : r_ (.tmp 13) = .bool false := op_at hr_ 0 (by kernel_rfl) (by kernel_rfl)
    clear hr_
    go_simp; first | done | with_reducible rfl
  simp only [Act.put, planVG, List.setIfInBounds_toArray, List.set_cons_zero, List.set_cons_succ, List.getElem?_cons_zero, List.getElem?_cons_succ]
  refine ⟨?_, ?_⟩
  · as_aux_lemma =>
    intro y_ hS_ hO_ hD
    clear hS_ hO_ hD
    refine s_gen (V := .bool true) [.bool false] (by kernel_rfl) (by kernel_rfl) (by kernel_rfl) ?_
    intro r_ hr_
    have o0_ : r_ (.tmp 81) = .bool false := op_at hr_ 0 (by kernel_rfl) (by kernel_rfl)
    clear hr_
    go_simp; first | done | with_reducible rfl
  simp only [Act.put, planVG, List.setIfInBounds_toArray, List.set_cons_zero, List.set_cons_succ, List.getElem?_cons_zero, List.getElem?_cons_succ]
  refine ⟨?_, ?_⟩
  · as_aux_lemma =>
    intro y_ hS_ hO_ hD
    clear hS_ hO_ hD
    refine s_gen (V := .bool true) [.bool true, .bool true, .bool false] (by kernel_rfl) (by kernel_rfl) (by kernel_rfl) ?_
    intro r_ hr_
    have o0_ : r_ (.tmp 80) = .bool true := op_at hr_ 0 (by kernel_rfl) (by kernel_rfl)
    have o1_ : r_ (.tmp 82) = .bool true := op_at hr_ 1 (by kernel_rfl) (by kernel_rfl)
    have o2_ : r_ (.const (.bool false)) = .bool false := op_at hr_ 2 (by kernel_rfl) (by kernel_rfl)
    clear hr_
    go_simp; first | done | with_reducible rfl
  simp only [Act.put, planVG, List.setIfInBounds_toArray, List.set_cons_zero, List.set_cons_succ, List.getElem?_cons_zero, List.getElem?_cons_succ]
  refine ⟨?_, ?_⟩
  · as_aux_lemma =>
    intro y_ hS_ hO_ hD
    clear hS_ hO_ hD
    refine s_gen (V := .bool true) [.bool true] (by kernel_rfl) (by kernel_rfl) (by kernel_rfl) ?_
    intro r_ hr_
    have o0_ : r_ (.tmp 83) = .bool true := op_at hr_ 0 (by kernel_rfl) (by kernel_rfl)
    clear hr_
    go_simp; first | done | with_reducible rfl
  simp only [Act.put, planVG, List.setIfInBounds_toArray, List.set_cons_zero, List.set_cons_succ, List.getElem?_cons_zero, List.getElem?_cons_succ]
  refine ⟨?_, ?_⟩
  · as_aux_lemma =>
    intro y_ hS_ hO_ hD
    try clear hS
    clear hS_ hO_ hD
    refine s_gcall (V := .bool true) [.func (.func 31) #[] #[]] ?_ ?_ (by kernel_rfl) (by kernel_rfl) (by kernel_rfl) ?_ ?_
    rotate_left 2
    · intro r_ hr_
      have o0_ : r_ (.func 31) = .func (.func 31) #[] #[] := op_at hr_ 0 (by kernel_rfl) (by kernel_rfl)
      clear hr_
      go_simp; first | done | with_reducible rfl | (constructor <;> with_reducible rfl)
    · refine goes06_any _
  simp only [Act.put, planVG, List.setIfInBounds_toArray, List.set_cons_zero, List.set_cons_succ, List.getElem?_cons_zero, List.getElem?_cons_succ]
  refine ⟨?_, ?_⟩
  · as_aux_lemma =>
    intro y_ hS_ hO_ hD
    clear hS_ hO_ hD
    refine s_gen (V := .bool true) [.bool true, .bool true, .bool false] (by kernel_rfl) (by kernel_rfl) (by kernel_rfl) ?_
    intro r_ hr_
    have o0_ : r_ (.tmp 84) = .bool true := op_at hr_ 0 (by kernel_rfl) (by kernel_rfl)
    have o1_ : r_ (.tmp 85) = .bool true := op_at hr_ 1 (by kernel_rfl) (by kernel_rfl)
    have o2_ : r_ (.const (.bool false)) = .bool false := op_at hr_ 2 (by kernel_rfl) (by kernel_rfl)
    clear hr_
    go_simp; first | done | with_reducible rfl
  simp only [Act.put, planVG, List.setIfInBounds_toArray, List.set_cons_zero, List.set_cons_succ, List.getElem?_cons_zero, List.getElem?_cons_succ]
  refine ⟨?_, ?_⟩
  · as_aux_lemma =>
    intro y_ hS_ hO_ hD
    clear hS_ hO_ hD
    refine s_gen (V := .bool true) [.bool true] (by kernel_rfl) (by kernel_rfl) (by kernel_rfl) ?_
    intro r_ hr_
    have o0_ : r_ (.tmp 86) = .bool true := op_at hr_ 0 (by kernel_rfl) (by kernel_rfl)
    clear hr_
    go_simp; first | done | with_reducible rfl
  simp only [Act.put, planVG, List.setIfInBounds_toArray, List.set_cons_zero, List.set_cons_succ, List.getElem?_cons_zero, List.getElem?_cons_succ]
  as_aux_lemma =>
    intro w8 hS hF hD_
    change wpList _ _ _ _ _ _
    replace hS := sg_no (by decide) hS
    obtain ⟨hk, hZ8, X1, X6, X7, X8⟩ := hS
    clear hF hD_
    clear ρ
    have hz_w8 := hk.size
    have X1l := X1.lt
    have X1f := X1.free
    have X1l1 : w.heap.size < w8.heap.size + 1 := by omega
    have X1l2 : w.heap.size < w8.heap.size + 1 + 1 := by omega
    have X1l3 : w.heap.size < w8.heap.size + 1 + 1 + 1 := by omega
    have X10 := X1.cell 0 _ rfl
    have X11 := X1.cell 1 _ rfl
    have X6l := X6.lt
    have X6f := X6.free
    have X6l1 : w5.heap.size < w8.heap.size + 1 := by omega
    have X6l2 : w5.heap.size < w8.heap.size + 1 + 1 := by omega
    have X6l3 : w5.heap.size < w8.heap.size + 1 + 1 + 1 := by omega
    have X60 := X6.cell 0 _ rfl
    have X61 := X6.cell 1 _ rfl
    have X7l := X7.lt
    have X7f := X7.free
    have X7l1 : w6.heap.size < w8.heap.size + 1 := by omega
    have X7l2 : w6.heap.size < w8.heap.size + 1 + 1 := by omega
    have X7l3 : w6.heap.size < w8.heap.size + 1 + 1 + 1 := by omega
    have X70 := X7.cell 0 _ rfl
    have X71 := X7.cell 1 _ rfl
    have X8l := X8.lt
    have X8f := X8.free
    have X8l1 : w7.heap.size < w8.heap.size + 1 := by omega
    have X8l2 : w7.heap.size < w8.heap.size + 1 + 1 := by omega
    have X8l3 : w7.heap.size < w8.heap.size + 1 + 1 + 1 := by omega
    have X80 := X8.cell 0 _ rfl
    have X81 := X8.cell 1 _ rfl
    go_wp2
    go_ret
    exact ⟨rfl, (by refine Kept.below ?_; repeat (first | with_reducible exact hk | with_reducible exact Kept.refl _ | with_reducible refine Kept.alloc ?_ _ | with_reducible refine Kept.drew ?_ | with_reducible refine Kept.setCell ?_ (by simp only [World.size_alloc, World.size_setCell, World.size_drew]; omega) _))⟩

theorem RootSquare_walk {A : Nat} (hA : W128 A) (w : World) :
    Calls Try.prog 13 #[bitsV A] w fun e w' => e = .returned (.bool true) ∧ Below w.heap.size w w' := by
  have hS := sq_w hA
  have h1 : mulN A A = A * A := mulN_def A A
  have h2 := root_sq hA
  have h3 : exactB (A * A) = true := by unfold exactB; rw [h2]; exact decide_eq_true rfl
  have v1 : val4 1 0 0 0 = 1 := rfl
  have v2 : val2 1 0 = 1 := rfl
  by_cases hs : A < 2
  · rcases (by omega : A = 0 ∨ A = 1) with rfl | rfl
    · rw [show bitsV 0 = .agg #[.int .u64 0, .int .u64 0] by kernel_rfl]; exact RootSquare_0 w
    · rw [show bitsV 1 = .agg #[.int .u64 0, .int .u64 1] by kernel_rfl]; exact RootSquare_1 w
  · obtain ⟨m1, m2, m3⟩ := root_more hA (by omega)
    obtain ⟨n1, n2, n3⟩ := root_less hA (by omega)
    have hP : W128 (A - 1) := ⟨by have := hA.lt; omega⟩
    have hpos : 1 ≤ A * A := Nat.mul_pos (by omega) (by omega)
    have e4 : add256 (A * A) (val4 1 0 0 0) = A * A + 1 := by have := m1.lt; rw [v1]; unfold add256; exact Nat.mod_eq_of_lt this
    have e7 : sub256 (A * A) (val4 1 0 0 0) = A * A - 1 := by have := hS.lt; rw [v1]; unfold sub256; generalize A * A = X at *; omega
    have e10 : sub128 A (val2 1 0) = A - 1 := by have := hA.lt; rw [v2]; unfold sub128; omega
    by_cases c1 : limb 1 A = 0
    · have eA : bitsV A = .agg #[.int .u64 0, .int .u64 (limb 0 A)] := by rw [bitsV, c1]
      rw [eA]
      exact RootSquare_mid hA hS h1 h2 h3 m1 n1 hP e4 m2 m3 e7 n2 n3 e10 ⟨hA, c1.symm, rfl⟩ (by have := hA.lt; unfold limb at c1 ⊢; omega) w
    · exact RootSquare_big hA hS h1 h2 h3 m1 n1 hP e4 m2 m3 e7 n2 n3 e10 c1 w
end Go.Proofs.Ytpeamkplhfddbaa
