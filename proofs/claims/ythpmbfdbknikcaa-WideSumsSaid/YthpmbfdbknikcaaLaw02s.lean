/- The walk of WideSums. -/
import Derived.Test.YthpmbfdbknikcaaLaw02
import Derived.Test.YthpmbfdbknikcaaRef02
set_option linter.unusedVariables false
set_option linter.unusedSimpArgs false
namespace Go.Proofs.Ythpmbfdbknikcaa
open Go.RowKit

set_option maxRecDepth 100000 in
set_option maxHeartbeats 8000000 in
theorem WideSums_zero {A B S D : Nat} {c b : Bool} {q : Int} (hA : W256 A) (hB : W256 B) (hS : W256 S) (hD : W256 D) (eS : add256 A B = S) (eD : sub256 A B = D) (eC : carry256 A B = c) (eB : ltB A B = b) (eQ : cmpN A B = q) (h0 : A = 0) (w : World) :
    Calls Try.prog 6 #[wideV A, wideV B] w fun e w' => e = .returned (.bool true) ∧ Below w.heap.size w w' := by
  have hk := Kept.refl w
  have HS := Lib.hid eS; have HD := Lib.hid eD; have HC := Lib.hid eC; have HB := Lib.hid eB; have HQ := Lib.hid eQ
  have la := len256 hA; have lb := len256 hB
  have HZ := Lib.hid (show zeroB A = true from decide_eq_true h0)
  have z2 : lenN A = 0 := by rw [h0]; exact lenN_zero
  clear h0 eS eD eC eB eQ
  go_enter Try.func6, Try.ntmps6
  go_wp2_with fail
  (with_reducible refine (calls_to (V := .tuple #[wideV S, .bool (c)]) (AddW_at (IsWide.of hA) (IsWide.of hB) _) (by rw [HS.out, HC.out])).mono ?_)
  rintro e w1 ⟨rfl, hb⟩
  have X1' : Box w1 (w.heap.size) #[.int .u64 (limb 0 A), .int .u64 (limb 1 A), .int .u64 (limb 2 A), .int .u64 (limb 3 A)] := Box.call hb (by repeat (first | with_reducible assumption | with_reducible apply Box.set10 | with_reducible apply Box.set20 | with_reducible apply Box.set21 | with_reducible apply Box.set40 | with_reducible apply Box.set41 | with_reducible apply Box.set42 | with_reducible apply Box.set43 | with_reducible apply Box.set50 | with_reducible apply Box.set51 | with_reducible apply Box.set52 | with_reducible apply Box.set53 | with_reducible apply Box.set54 | with_reducible apply Box.drew | (with_reducible apply Box.newAt; (try simp only [World.size_alloc, World.size_setCell, World.size_drew]); done) | with_reducible apply Box.alloc | (with_reducible apply Box.other; case hne => ((try simp only [World.size_alloc, World.size_setCell, World.size_drew]); omega))))
  have X2' : Box w1 (w.heap.size + 1) #[.int .u64 (limb 0 B), .int .u64 (limb 1 B), .int .u64 (limb 2 B), .int .u64 (limb 3 B)] := Box.call hb (by repeat (first | with_reducible assumption | with_reducible apply Box.set10 | with_reducible apply Box.set20 | with_reducible apply Box.set21 | with_reducible apply Box.set40 | with_reducible apply Box.set41 | with_reducible apply Box.set42 | with_reducible apply Box.set43 | with_reducible apply Box.set50 | with_reducible apply Box.set51 | with_reducible apply Box.set52 | with_reducible apply Box.set53 | with_reducible apply Box.set54 | with_reducible apply Box.drew | (with_reducible apply Box.newAt; (try simp only [World.size_alloc, World.size_setCell, World.size_drew]); done) | with_reducible apply Box.alloc | (with_reducible apply Box.other; case hne => ((try simp only [World.size_alloc, World.size_setCell, World.size_drew]); omega))))
  have hk' : Kept w.heap.size w w1 := Kept.step (by repeat (first | with_reducible exact hk | with_reducible exact Kept.refl _ | with_reducible refine Kept.alloc ?_ _ | with_reducible refine Kept.drew ?_ | with_reducible refine Kept.setCell ?_ (by simp only [World.size_alloc, World.size_setCell, World.size_drew]; omega) _)) hb
  clear hk hb
  have X1 := X1'
  clear X1'
  have X2 := X2'
  clear X2'
  have hk := hk'
  clear hk'
  have hz_w1 := hk.size
  have X1l := X1.lt
  have X1f := X1.free
  have X1l1 : w.heap.size < w1.heap.size + 1 := by omega
  have X1l2 : w.heap.size < w1.heap.size + 1 + 1 := by omega
  have X1l3 : w.heap.size < w1.heap.size + 1 + 1 + 1 := by omega
  have X10 := X1.cell 0 _ rfl
  have X11 := X1.cell 1 _ rfl
  have X12 := X1.cell 2 _ rfl
  have X13 := X1.cell 3 _ rfl
  have X2l := X2.lt
  have X2f := X2.free
  have X2l1 : w.heap.size + 1 < w1.heap.size + 1 := by omega
  have X2l2 : w.heap.size + 1 < w1.heap.size + 1 + 1 := by omega
  have X2l3 : w.heap.size + 1 < w1.heap.size + 1 + 1 + 1 := by omega
  have X20 := X2.cell 0 _ rfl
  have X21 := X2.cell 1 _ rfl
  have X22 := X2.cell 2 _ rfl
  have X23 := X2.cell 3 _ rfl
  go_wp2_with fail
  (with_reducible refine (calls_to (V := .tuple #[wideV S, .bool (c)]) (ref02Add_any (IsWide.of hA).w (IsWide.of hB).w _) (by rw [HS.out, HC.out])).mono ?_)
  rintro e w2 ⟨rfl, hb⟩
  have X1' : Box w2 (w.heap.size) #[.int .u64 (limb 0 A), .int .u64 (limb 1 A), .int .u64 (limb 2 A), .int .u64 (limb 3 A)] := Box.call hb (by repeat (first | with_reducible assumption | with_reducible apply Box.set10 | with_reducible apply Box.set20 | with_reducible apply Box.set21 | with_reducible apply Box.set40 | with_reducible apply Box.set41 | with_reducible apply Box.set42 | with_reducible apply Box.set43 | with_reducible apply Box.set50 | with_reducible apply Box.set51 | with_reducible apply Box.set52 | with_reducible apply Box.set53 | with_reducible apply Box.set54 | with_reducible apply Box.drew | (with_reducible apply Box.newAt; (try simp only [World.size_alloc, World.size_setCell, World.size_drew]); done) | with_reducible apply Box.alloc | (with_reducible apply Box.other; case hne => ((try simp only [World.size_alloc, World.size_setCell, World.size_drew]); omega))))
  have X2' : Box w2 (w.heap.size + 1) #[.int .u64 (limb 0 B), .int .u64 (limb 1 B), .int .u64 (limb 2 B), .int .u64 (limb 3 B)] := Box.call hb (by repeat (first | with_reducible assumption | with_reducible apply Box.set10 | with_reducible apply Box.set20 | with_reducible apply Box.set21 | with_reducible apply Box.set40 | with_reducible apply Box.set41 | with_reducible apply Box.set42 | with_reducible apply Box.set43 | with_reducible apply Box.set50 | with_reducible apply Box.set51 | with_reducible apply Box.set52 | with_reducible apply Box.set53 | with_reducible apply Box.set54 | with_reducible apply Box.drew | (with_reducible apply Box.newAt; (try simp only [World.size_alloc, World.size_setCell, World.size_drew]); done) | with_reducible apply Box.alloc | (with_reducible apply Box.other; case hne => ((try simp only [World.size_alloc, World.size_setCell, World.size_drew]); omega))))
  have X3' : Box w2 (w1.heap.size) #[.int .u64 (limb 0 S), .int .u64 (limb 1 S), .int .u64 (limb 2 S), .int .u64 (limb 3 S)] := Box.call hb (by repeat (first | with_reducible assumption | with_reducible apply Box.set10 | with_reducible apply Box.set20 | with_reducible apply Box.set21 | with_reducible apply Box.set40 | with_reducible apply Box.set41 | with_reducible apply Box.set42 | with_reducible apply Box.set43 | with_reducible apply Box.set50 | with_reducible apply Box.set51 | with_reducible apply Box.set52 | with_reducible apply Box.set53 | with_reducible apply Box.set54 | with_reducible apply Box.drew | (with_reducible apply Box.newAt; (try simp only [World.size_alloc, World.size_setCell, World.size_drew]); done) | with_reducible apply Box.alloc | (with_reducible apply Box.other; case hne => ((try simp only [World.size_alloc, World.size_setCell, World.size_drew]); omega))))
  have hk' : Kept w.heap.size w w2 := Kept.step (by repeat (first | with_reducible exact hk | with_reducible exact Kept.refl _ | with_reducible refine Kept.alloc ?_ _ | with_reducible refine Kept.drew ?_ | with_reducible refine Kept.setCell ?_ (by simp only [World.size_alloc, World.size_setCell, World.size_drew]; omega) _)) hb
  clear hk hb
  clear X1 X1l1 X1l2 X1l3 X1f X10 X11 X12 X13
  clear X2 X2l1 X2l2 X2l3 X2f X20 X21 X22 X23
  have X1 := X1'
  clear X1'
  have X2 := X2'
  clear X2'
  have X3 := X3'
  clear X3'
  have hk := hk'
  clear hk'
  have hz_w2 := hk.size
  have X1l := X1.lt
  have X1f := X1.free
  have X1l1 : w.heap.size < w2.heap.size + 1 := by omega
  have X1l2 : w.heap.size < w2.heap.size + 1 + 1 := by omega
  have X1l3 : w.heap.size < w2.heap.size + 1 + 1 + 1 := by omega
  have X10 := X1.cell 0 _ rfl
  have X11 := X1.cell 1 _ rfl
  have X12 := X1.cell 2 _ rfl
  have X13 := X1.cell 3 _ rfl
  have X2l := X2.lt
  have X2f := X2.free
  have X2l1 : w.heap.size + 1 < w2.heap.size + 1 := by omega
  have X2l2 : w.heap.size + 1 < w2.heap.size + 1 + 1 := by omega
  have X2l3 : w.heap.size + 1 < w2.heap.size + 1 + 1 + 1 := by omega
  have X20 := X2.cell 0 _ rfl
  have X21 := X2.cell 1 _ rfl
  have X22 := X2.cell 2 _ rfl
  have X23 := X2.cell 3 _ rfl
  have X3l := X3.lt
  have X3f := X3.free
  have X3l1 : w1.heap.size < w2.heap.size + 1 := by omega
  have X3l2 : w1.heap.size < w2.heap.size + 1 + 1 := by omega
  have X3l3 : w1.heap.size < w2.heap.size + 1 + 1 + 1 := by omega
  have X30 := X3.cell 0 _ rfl
  have X31 := X3.cell 1 _ rfl
  have X32 := X3.cell 2 _ rfl
  have X33 := X3.cell 3 _ rfl
  go_wp2_with fail
  (with_reducible refine (calls_to (V := .tuple #[wideV D, .bool (b)]) (SubW_at (IsWide.of hA) (IsWide.of hB) _) (by rw [HD.out, HB.out])).mono ?_)
  rintro e w3 ⟨rfl, hb⟩
  have X1' : Box w3 (w.heap.size) #[.int .u64 (limb 0 A), .int .u64 (limb 1 A), .int .u64 (limb 2 A), .int .u64 (limb 3 A)] := Box.call hb (by repeat (first | with_reducible assumption | with_reducible apply Box.set10 | with_reducible apply Box.set20 | with_reducible apply Box.set21 | with_reducible apply Box.set40 | with_reducible apply Box.set41 | with_reducible apply Box.set42 | with_reducible apply Box.set43 | with_reducible apply Box.set50 | with_reducible apply Box.set51 | with_reducible apply Box.set52 | with_reducible apply Box.set53 | with_reducible apply Box.set54 | with_reducible apply Box.drew | (with_reducible apply Box.newAt; (try simp only [World.size_alloc, World.size_setCell, World.size_drew]); done) | with_reducible apply Box.alloc | (with_reducible apply Box.other; case hne => ((try simp only [World.size_alloc, World.size_setCell, World.size_drew]); omega))))
  have X2' : Box w3 (w.heap.size + 1) #[.int .u64 (limb 0 B), .int .u64 (limb 1 B), .int .u64 (limb 2 B), .int .u64 (limb 3 B)] := Box.call hb (by repeat (first | with_reducible assumption | with_reducible apply Box.set10 | with_reducible apply Box.set20 | with_reducible apply Box.set21 | with_reducible apply Box.set40 | with_reducible apply Box.set41 | with_reducible apply Box.set42 | with_reducible apply Box.set43 | with_reducible apply Box.set50 | with_reducible apply Box.set51 | with_reducible apply Box.set52 | with_reducible apply Box.set53 | with_reducible apply Box.set54 | with_reducible apply Box.drew | (with_reducible apply Box.newAt; (try simp only [World.size_alloc, World.size_setCell, World.size_drew]); done) | with_reducible apply Box.alloc | (with_reducible apply Box.other; case hne => ((try simp only [World.size_alloc, World.size_setCell, World.size_drew]); omega))))
  have X3' : Box w3 (w1.heap.size) #[.int .u64 (limb 0 S), .int .u64 (limb 1 S), .int .u64 (limb 2 S), .int .u64 (limb 3 S)] := Box.call hb (by repeat (first | with_reducible assumption | with_reducible apply Box.set10 | with_reducible apply Box.set20 | with_reducible apply Box.set21 | with_reducible apply Box.set40 | with_reducible apply Box.set41 | with_reducible apply Box.set42 | with_reducible apply Box.set43 | with_reducible apply Box.set50 | with_reducible apply Box.set51 | with_reducible apply Box.set52 | with_reducible apply Box.set53 | with_reducible apply Box.set54 | with_reducible apply Box.drew | (with_reducible apply Box.newAt; (try simp only [World.size_alloc, World.size_setCell, World.size_drew]); done) | with_reducible apply Box.alloc | (with_reducible apply Box.other; case hne => ((try simp only [World.size_alloc, World.size_setCell, World.size_drew]); omega))))
  have X4' : Box w3 (w2.heap.size) #[.int .u64 (limb 0 S), .int .u64 (limb 1 S), .int .u64 (limb 2 S), .int .u64 (limb 3 S)] := Box.call hb (by repeat (first | with_reducible assumption | with_reducible apply Box.set10 | with_reducible apply Box.set20 | with_reducible apply Box.set21 | with_reducible apply Box.set40 | with_reducible apply Box.set41 | with_reducible apply Box.set42 | with_reducible apply Box.set43 | with_reducible apply Box.set50 | with_reducible apply Box.set51 | with_reducible apply Box.set52 | with_reducible apply Box.set53 | with_reducible apply Box.set54 | with_reducible apply Box.drew | (with_reducible apply Box.newAt; (try simp only [World.size_alloc, World.size_setCell, World.size_drew]); done) | with_reducible apply Box.alloc | (with_reducible apply Box.other; case hne => ((try simp only [World.size_alloc, World.size_setCell, World.size_drew]); omega))))
  have hk' : Kept w.heap.size w w3 := Kept.step (by repeat (first | with_reducible exact hk | with_reducible exact Kept.refl _ | with_reducible refine Kept.alloc ?_ _ | with_reducible refine Kept.drew ?_ | with_reducible refine Kept.setCell ?_ (by simp only [World.size_alloc, World.size_setCell, World.size_drew]; omega) _)) hb
  clear hk hb
  clear X1 X1l1 X1l2 X1l3 X1f X10 X11 X12 X13
  clear X2 X2l1 X2l2 X2l3 X2f X20 X21 X22 X23
  clear X3 X3l1 X3l2 X3l3 X3f X30 X31 X32 X33
  have X1 := X1'
  clear X1'
  have X2 := X2'
  clear X2'
  have X3 := X3'
  clear X3'
  have X4 := X4'
  clear X4'
  have hk := hk'
  clear hk'
  have hz_w3 := hk.size
  have X1l := X1.lt
  have X1f := X1.free
  have X1l1 : w.heap.size < w3.heap.size + 1 := by omega
  have X1l2 : w.heap.size < w3.heap.size + 1 + 1 := by omega
  have X1l3 : w.heap.size < w3.heap.size + 1 + 1 + 1 := by omega
  have X10 := X1.cell 0 _ rfl
  have X11 := X1.cell 1 _ rfl
  have X12 := X1.cell 2 _ rfl
  have X13 := X1.cell 3 _ rfl
  have X2l := X2.lt
  have X2f := X2.free
  have X2l1 : w.heap.size + 1 < w3.heap.size + 1 := by omega
  have X2l2 : w.heap.size + 1 < w3.heap.size + 1 + 1 := by omega
  have X2l3 : w.heap.size + 1 < w3.heap.size + 1 + 1 + 1 := by omega
  have X20 := X2.cell 0 _ rfl
  have X21 := X2.cell 1 _ rfl
  have X22 := X2.cell 2 _ rfl
  have X23 := X2.cell 3 _ rfl
  have X3l := X3.lt
  have X3f := X3.free
  have X3l1 : w1.heap.size < w3.heap.size + 1 := by omega
  have X3l2 : w1.heap.size < w3.heap.size + 1 + 1 := by omega
  have X3l3 : w1.heap.size < w3.heap.size + 1 + 1 + 1 := by omega
  have X30 := X3.cell 0 _ rfl
  have X31 := X3.cell 1 _ rfl
  have X32 := X3.cell 2 _ rfl
  have X33 := X3.cell 3 _ rfl
  have X4l := X4.lt
  have X4f := X4.free
  have X4l1 : w2.heap.size < w3.heap.size + 1 := by omega
  have X4l2 : w2.heap.size < w3.heap.size + 1 + 1 := by omega
  have X4l3 : w2.heap.size < w3.heap.size + 1 + 1 + 1 := by omega
  have X40 := X4.cell 0 _ rfl
  have X41 := X4.cell 1 _ rfl
  have X42 := X4.cell 2 _ rfl
  have X43 := X4.cell 3 _ rfl
  go_wp2_with fail
  (with_reducible refine (calls_to (V := .tuple #[wideV D, .bool (b)]) (ref02Sub_any (IsWide.of hA).w (IsWide.of hB).w _) (by rw [HD.out, HB.out])).mono ?_)
  rintro e w4 ⟨rfl, hb⟩
  have X1' : Box w4 (w.heap.size) #[.int .u64 (limb 0 A), .int .u64 (limb 1 A), .int .u64 (limb 2 A), .int .u64 (limb 3 A)] := Box.call hb (by repeat (first | with_reducible assumption | with_reducible apply Box.set10 | with_reducible apply Box.set20 | with_reducible apply Box.set21 | with_reducible apply Box.set40 | with_reducible apply Box.set41 | with_reducible apply Box.set42 | with_reducible apply Box.set43 | with_reducible apply Box.set50 | with_reducible apply Box.set51 | with_reducible apply Box.set52 | with_reducible apply Box.set53 | with_reducible apply Box.set54 | with_reducible apply Box.drew | (with_reducible apply Box.newAt; (try simp only [World.size_alloc, World.size_setCell, World.size_drew]); done) | with_reducible apply Box.alloc | (with_reducible apply Box.other; case hne => ((try simp only [World.size_alloc, World.size_setCell, World.size_drew]); omega))))
  have X2' : Box w4 (w.heap.size + 1) #[.int .u64 (limb 0 B), .int .u64 (limb 1 B), .int .u64 (limb 2 B), .int .u64 (limb 3 B)] := Box.call hb (by repeat (first | with_reducible assumption | with_reducible apply Box.set10 | with_reducible apply Box.set20 | with_reducible apply Box.set21 | with_reducible apply Box.set40 | with_reducible apply Box.set41 | with_reducible apply Box.set42 | with_reducible apply Box.set43 | with_reducible apply Box.set50 | with_reducible apply Box.set51 | with_reducible apply Box.set52 | with_reducible apply Box.set53 | with_reducible apply Box.set54 | with_reducible apply Box.drew | (with_reducible apply Box.newAt; (try simp only [World.size_alloc, World.size_setCell, World.size_drew]); done) | with_reducible apply Box.alloc | (with_reducible apply Box.other; case hne => ((try simp only [World.size_alloc, World.size_setCell, World.size_drew]); omega))))
  have X3' : Box w4 (w1.heap.size) #[.int .u64 (limb 0 S), .int .u64 (limb 1 S), .int .u64 (limb 2 S), .int .u64 (limb 3 S)] := Box.call hb (by repeat (first | with_reducible assumption | with_reducible apply Box.set10 | with_reducible apply Box.set20 | with_reducible apply Box.set21 | with_reducible apply Box.set40 | with_reducible apply Box.set41 | with_reducible apply Box.set42 | with_reducible apply Box.set43 | with_reducible apply Box.set50 | with_reducible apply Box.set51 | with_reducible apply Box.set52 | with_reducible apply Box.set53 | with_reducible apply Box.set54 | with_reducible apply Box.drew | (with_reducible apply Box.newAt; (try simp only [World.size_alloc, World.size_setCell, World.size_drew]); done) | with_reducible apply Box.alloc | (with_reducible apply Box.other; case hne => ((try simp only [World.size_alloc, World.size_setCell, World.size_drew]); omega))))
  have X4' : Box w4 (w2.heap.size) #[.int .u64 (limb 0 S), .int .u64 (limb 1 S), .int .u64 (limb 2 S), .int .u64 (limb 3 S)] := Box.call hb (by repeat (first | with_reducible assumption | with_reducible apply Box.set10 | with_reducible apply Box.set20 | with_reducible apply Box.set21 | with_reducible apply Box.set40 | with_reducible apply Box.set41 | with_reducible apply Box.set42 | with_reducible apply Box.set43 | with_reducible apply Box.set50 | with_reducible apply Box.set51 | with_reducible apply Box.set52 | with_reducible apply Box.set53 | with_reducible apply Box.set54 | with_reducible apply Box.drew | (with_reducible apply Box.newAt; (try simp only [World.size_alloc, World.size_setCell, World.size_drew]); done) | with_reducible apply Box.alloc | (with_reducible apply Box.other; case hne => ((try simp only [World.size_alloc, World.size_setCell, World.size_drew]); omega))))
  have X5' : Box w4 (w3.heap.size) #[.int .u64 (limb 0 D), .int .u64 (limb 1 D), .int .u64 (limb 2 D), .int .u64 (limb 3 D)] := Box.call hb (by repeat (first | with_reducible assumption | with_reducible apply Box.set10 | with_reducible apply Box.set20 | with_reducible apply Box.set21 | with_reducible apply Box.set40 | with_reducible apply Box.set41 | with_reducible apply Box.set42 | with_reducible apply Box.set43 | with_reducible apply Box.set50 | with_reducible apply Box.set51 | with_reducible apply Box.set52 | with_reducible apply Box.set53 | with_reducible apply Box.set54 | with_reducible apply Box.drew | (with_reducible apply Box.newAt; (try simp only [World.size_alloc, World.size_setCell, World.size_drew]); done) | with_reducible apply Box.alloc | (with_reducible apply Box.other; case hne => ((try simp only [World.size_alloc, World.size_setCell, World.size_drew]); omega))))
  have hk' : Kept w.heap.size w w4 := Kept.step (by repeat (first | with_reducible exact hk | with_reducible exact Kept.refl _ | with_reducible refine Kept.alloc ?_ _ | with_reducible refine Kept.drew ?_ | with_reducible refine Kept.setCell ?_ (by simp only [World.size_alloc, World.size_setCell, World.size_drew]; omega) _)) hb
  clear hk hb
  clear X1 X1l1 X1l2 X1l3 X1f X10 X11 X12 X13
  clear X2 X2l1 X2l2 X2l3 X2f X20 X21 X22 X23
  clear X3 X3l1 X3l2 X3l3 X3f X30 X31 X32 X33
  clear X4 X4l1 X4l2 X4l3 X4f X40 X41 X42 X43
  have X1 := X1'
  clear X1'
  have X2 := X2'
  clear X2'
  have X3 := X3'
  clear X3'
  have X4 := X4'
  clear X4'
  have X5 := X5'
  clear X5'
  have hk := hk'
  clear hk'
  have hz_w4 := hk.size
  have X1l := X1.lt
  have X1f := X1.free
  have X1l1 : w.heap.size < w4.heap.size + 1 := by omega
  have X1l2 : w.heap.size < w4.heap.size + 1 + 1 := by omega
  have X1l3 : w.heap.size < w4.heap.size + 1 + 1 + 1 := by omega
  have X10 := X1.cell 0 _ rfl
  have X11 := X1.cell 1 _ rfl
  have X12 := X1.cell 2 _ rfl
  have X13 := X1.cell 3 _ rfl
  have X2l := X2.lt
  have X2f := X2.free
  have X2l1 : w.heap.size + 1 < w4.heap.size + 1 := by omega
  have X2l2 : w.heap.size + 1 < w4.heap.size + 1 + 1 := by omega
  have X2l3 : w.heap.size + 1 < w4.heap.size + 1 + 1 + 1 := by omega
  have X20 := X2.cell 0 _ rfl
  have X21 := X2.cell 1 _ rfl
  have X22 := X2.cell 2 _ rfl
  have X23 := X2.cell 3 _ rfl
  have X3l := X3.lt
  have X3f := X3.free
  have X3l1 : w1.heap.size < w4.heap.size + 1 := by omega
  have X3l2 : w1.heap.size < w4.heap.size + 1 + 1 := by omega
  have X3l3 : w1.heap.size < w4.heap.size + 1 + 1 + 1 := by omega
  have X30 := X3.cell 0 _ rfl
  have X31 := X3.cell 1 _ rfl
  have X32 := X3.cell 2 _ rfl
  have X33 := X3.cell 3 _ rfl
  have X4l := X4.lt
  have X4f := X4.free
  have X4l1 : w2.heap.size < w4.heap.size + 1 := by omega
  have X4l2 : w2.heap.size < w4.heap.size + 1 + 1 := by omega
  have X4l3 : w2.heap.size < w4.heap.size + 1 + 1 + 1 := by omega
  have X40 := X4.cell 0 _ rfl
  have X41 := X4.cell 1 _ rfl
  have X42 := X4.cell 2 _ rfl
  have X43 := X4.cell 3 _ rfl
  have X5l := X5.lt
  have X5f := X5.free
  have X5l1 : w3.heap.size < w4.heap.size + 1 := by omega
  have X5l2 : w3.heap.size < w4.heap.size + 1 + 1 := by omega
  have X5l3 : w3.heap.size < w4.heap.size + 1 + 1 + 1 := by omega
  have X50 := X5.cell 0 _ rfl
  have X51 := X5.cell 1 _ rfl
  have X52 := X5.cell 2 _ rfl
  have X53 := X5.cell 3 _ rfl
  go_wp2
  refine wp_region_g 6 (fun W' => Kept w.heap.size w W' ∧ w4.heap.size + 1 ≤ W'.heap.size ∧ Box W' (w.heap.size) #[.int .u64 (limb 0 A), .int .u64 (limb 1 A), .int .u64 (limb 2 A), .int .u64 (limb 3 A)] ∧ Box W' (w.heap.size + 1) #[.int .u64 (limb 0 B), .int .u64 (limb 1 B), .int .u64 (limb 2 B), .int .u64 (limb 3 B)] ∧ Box W' (w1.heap.size) #[.int .u64 (limb 0 S), .int .u64 (limb 1 S), .int .u64 (limb 2 S), .int .u64 (limb 3 S)] ∧ Box W' (w2.heap.size) #[.int .u64 (limb 0 S), .int .u64 (limb 1 S), .int .u64 (limb 2 S), .int .u64 (limb 3 S)] ∧ Box W' (w3.heap.size) #[.int .u64 (limb 0 D), .int .u64 (limb 1 D), .int .u64 (limb 2 D), .int .u64 (limb 3 D)] ∧ Box W' (w4.heap.size) #[.int .u64 (limb 0 D), .int .u64 (limb 1 D), .int .u64 (limb 2 D), .int .u64 (limb 3 D)]) (fun W' => Kept w.heap.size w W' ∧ w4.heap.size + 1 ≤ W'.heap.size ∧ Box W' (w.heap.size) #[.int .u64 (limb 0 A), .int .u64 (limb 1 A), .int .u64 (limb 2 A), .int .u64 (limb 3 A)] ∧ Box W' (w.heap.size + 1) #[.int .u64 (limb 0 B), .int .u64 (limb 1 B), .int .u64 (limb 2 B), .int .u64 (limb 3 B)] ∧ Box W' (w1.heap.size) #[.int .u64 (limb 0 S), .int .u64 (limb 1 S), .int .u64 (limb 2 S), .int .u64 (limb 3 S)] ∧ Box W' (w2.heap.size) #[.int .u64 (limb 0 S), .int .u64 (limb 1 S), .int .u64 (limb 2 S), .int .u64 (limb 3 S)] ∧ Box W' (w3.heap.size) #[.int .u64 (limb 0 D), .int .u64 (limb 1 D), .int .u64 (limb 2 D), .int .u64 (limb 3 D)] ∧ Box W' (w4.heap.size) #[.int .u64 (limb 0 D), .int .u64 (limb 1 D), .int .u64 (limb 2 D), .int .u64 (limb 3 D)]) 1000 (w4.heap.size + 1) [.known (wideV A), .num (A), .known (wideV B), .num (B), .num (A), .num (B)] (by kernel_rfl) (by kernel_rfl) (fun W W' h hb => ⟨h.1.step hb, Nat.le_trans (h.2.1) hb.size, Box.call hb (h.2.2.1), Box.call hb (h.2.2.2.1), Box.call hb (h.2.2.2.2.1), Box.call hb (h.2.2.2.2.2.1), Box.call hb (h.2.2.2.2.2.2.1), Box.call hb (h.2.2.2.2.2.2.2)⟩) (fun W W' h hb => ⟨h.1.step hb, Nat.le_trans (h.2.1) hb.size, Box.call hb (h.2.2.1), Box.call hb (h.2.2.2.1), Box.call hb (h.2.2.2.2.1), Box.call hb (h.2.2.2.2.2.1), Box.call hb (h.2.2.2.2.2.2.1), Box.call hb (h.2.2.2.2.2.2.2)⟩) (no_out (of_decide_eq_true (by kernel_rfl))) (.inl (by kernel_rfl)) (.inl (by kernel_rfl)) (fun _ h => h.2.1) (fun _ h => h.2.1) (⟨(by repeat (first | with_reducible exact hk | with_reducible exact Kept.refl _ | with_reducible refine Kept.alloc ?_ _ | with_reducible refine Kept.drew ?_ | with_reducible refine Kept.setCell ?_ (by simp only [World.size_alloc, World.size_setCell, World.size_drew]; omega) _)), (by (try simp only [World.size_alloc, World.size_setCell, World.size_drew]); omega), (by repeat (first | with_reducible assumption | with_reducible apply Box.set10 | with_reducible apply Box.set20 | with_reducible apply Box.set21 | with_reducible apply Box.set40 | with_reducible apply Box.set41 | with_reducible apply Box.set42 | with_reducible apply Box.set43 | with_reducible apply Box.set50 | with_reducible apply Box.set51 | with_reducible apply Box.set52 | with_reducible apply Box.set53 | with_reducible apply Box.set54 | with_reducible apply Box.drew | (with_reducible apply Box.newAt; (try simp only [World.size_alloc, World.size_setCell, World.size_drew]); done) | with_reducible apply Box.alloc | (with_reducible apply Box.other; case hne => ((try simp only [World.size_alloc, World.size_setCell, World.size_drew]); omega)))), (by repeat (first | with_reducible assumption | with_reducible apply Box.set10 | with_reducible apply Box.set20 | with_reducible apply Box.set21 | with_reducible apply Box.set40 | with_reducible apply Box.set41 | with_reducible apply Box.set42 | with_reducible apply Box.set43 | with_reducible apply Box.set50 | with_reducible apply Box.set51 | with_reducible apply Box.set52 | with_reducible apply Box.set53 | with_reducible apply Box.set54 | with_reducible apply Box.drew | (with_reducible apply Box.newAt; (try simp only [World.size_alloc, World.size_setCell, World.size_drew]); done) | with_reducible apply Box.alloc | (with_reducible apply Box.other; case hne => ((try simp only [World.size_alloc, World.size_setCell, World.size_drew]); omega)))), (by repeat (first | with_reducible assumption | with_reducible apply Box.set10 | with_reducible apply Box.set20 | with_reducible apply Box.set21 | with_reducible apply Box.set40 | with_reducible apply Box.set41 | with_reducible apply Box.set42 | with_reducible apply Box.set43 | with_reducible apply Box.set50 | with_reducible apply Box.set51 | with_reducible apply Box.set52 | with_reducible apply Box.set53 | with_reducible apply Box.set54 | with_reducible apply Box.drew | (with_reducible apply Box.newAt; (try simp only [World.size_alloc, World.size_setCell, World.size_drew]); done) | with_reducible apply Box.alloc | (with_reducible apply Box.other; case hne => ((try simp only [World.size_alloc, World.size_setCell, World.size_drew]); omega)))), (by repeat (first | with_reducible assumption | with_reducible apply Box.set10 | with_reducible apply Box.set20 | with_reducible apply Box.set21 | with_reducible apply Box.set40 | with_reducible apply Box.set41 | with_reducible apply Box.set42 | with_reducible apply Box.set43 | with_reducible apply Box.set50 | with_reducible apply Box.set51 | with_reducible apply Box.set52 | with_reducible apply Box.set53 | with_reducible apply Box.set54 | with_reducible apply Box.drew | (with_reducible apply Box.newAt; (try simp only [World.size_alloc, World.size_setCell, World.size_drew]); done) | with_reducible apply Box.alloc | (with_reducible apply Box.other; case hne => ((try simp only [World.size_alloc, World.size_setCell, World.size_drew]); omega)))), (by repeat (first | with_reducible assumption | with_reducible apply Box.set10 | with_reducible apply Box.set20 | with_reducible apply Box.set21 | with_reducible apply Box.set40 | with_reducible apply Box.set41 | with_reducible apply Box.set42 | with_reducible apply Box.set43 | with_reducible apply Box.set50 | with_reducible apply Box.set51 | with_reducible apply Box.set52 | with_reducible apply Box.set53 | with_reducible apply Box.set54 | with_reducible apply Box.drew | (with_reducible apply Box.newAt; (try simp only [World.size_alloc, World.size_setCell, World.size_drew]); done) | with_reducible apply Box.alloc | (with_reducible apply Box.other; case hne => ((try simp only [World.size_alloc, World.size_setCell, World.size_drew]); omega)))), (by repeat (first | with_reducible assumption | with_reducible apply Box.set10 | with_reducible apply Box.set20 | with_reducible apply Box.set21 | with_reducible apply Box.set40 | with_reducible apply Box.set41 | with_reducible apply Box.set42 | with_reducible apply Box.set43 | with_reducible apply Box.set50 | with_reducible apply Box.set51 | with_reducible apply Box.set52 | with_reducible apply Box.set53 | with_reducible apply Box.set54 | with_reducible apply Box.drew | (with_reducible apply Box.newAt; (try simp only [World.size_alloc, World.size_setCell, World.size_drew]); done) | with_reducible apply Box.alloc | (with_reducible apply Box.other; case hne => ((try simp only [World.size_alloc, World.size_setCell, World.size_drew]); omega))))⟩) ?_
  clear hk
  clear X1 X1l1 X1l2 X1l3 X1f X10 X11 X12 X13
  clear X2 X2l1 X2l2 X2l3 X2f X20 X21 X22 X23
  clear X3 X3l1 X3l2 X3l3 X3f X30 X31 X32 X33
  clear X4 X4l1 X4l2 X4l3 X4f X40 X41 X42 X43
  clear X5 X5l1 X5l2 X5l3 X5f X50 X51 X52 X53
  intro ρ
  simp only [List.take_succ_cons, List.take_zero, List.drop_succ_cons, List.drop_zero]
  refine ⟨?_, ?_⟩
  · as_aux_lemma =>
    intro y_ hS_ hO_ hD
    have Q := ((hS_ (by rfl)).2.2.1).cell
    have q0 := Q 0 _ rfl
    have q1 := Q 1 _ rfl
    have q2 := Q 2 _ rfl
    have q3 := Q 3 _ rfl
    clear Q hS_ hO_ hD
    refine s_gen (V := wideV A) [.pointer (some ⟨w.heap.size, 0, none⟩)] (by kernel_rfl) (by kernel_rfl) (by kernel_rfl) ?_
    intro r_ hr_
    have o0_ : r_ (.tmp 2) = .pointer (some ⟨w.heap.size, 0, none⟩) := op_at hr_ 0 (by kernel_rfl) (by kernel_rfl)
    clear hr_
    go_simp; first | done | with_reducible rfl
  simp only [Act.put, planVG, List.setIfInBounds_toArray, List.set_cons_zero, List.set_cons_succ, List.getElem?_cons_zero, List.getElem?_cons_succ]
  refine ⟨?_, ?_⟩
  · as_aux_lemma =>
    intro y_ hS_ hO_ hD
    try clear hS
    clear hS_ hO_ hD
    refine s_gcallN (A := A) [.func (.func 13) #[] #[], wideV A] ?_ ?_ (by kernel_rfl) (by kernel_rfl) (by kernel_rfl) ?_ ?_
    rotate_left 2
    · intro r_ hr_
      have o0_ : r_ (.func 13) = .func (.func 13) #[] #[] := op_at hr_ 0 (by kernel_rfl) (by kernel_rfl)
      have o1_ : r_ (.tmp 39) = wideV A := op_at hr_ 1 (by kernel_rfl) (by kernel_rfl)
      clear hr_
      go_simp; first | done | with_reducible rfl | (constructor <;> with_reducible rfl)
    · refine refWide_any (IsWide.of hA).w _
  simp only [Act.put, planVG, List.setIfInBounds_toArray, List.set_cons_zero, List.set_cons_succ, List.getElem?_cons_zero, List.getElem?_cons_succ]
  refine ⟨?_, ?_⟩
  · as_aux_lemma =>
    intro y_ hS_ hO_ hD
    have Q := ((hS_ (by rfl)).2.2.2.1).cell
    have q0 := Q 0 _ rfl
    have q1 := Q 1 _ rfl
    have q2 := Q 2 _ rfl
    have q3 := Q 3 _ rfl
    clear Q hS_ hO_ hD
    refine s_gen (V := wideV B) [.pointer (some ⟨w.heap.size + 1, 0, none⟩)] (by kernel_rfl) (by kernel_rfl) (by kernel_rfl) ?_
    intro r_ hr_
    have o0_ : r_ (.tmp 3) = .pointer (some ⟨w.heap.size + 1, 0, none⟩) := op_at hr_ 0 (by kernel_rfl) (by kernel_rfl)
    clear hr_
    go_simp; first | done | with_reducible rfl
  simp only [Act.put, planVG, List.setIfInBounds_toArray, List.set_cons_zero, List.set_cons_succ, List.getElem?_cons_zero, List.getElem?_cons_succ]
  refine ⟨?_, ?_⟩
  · as_aux_lemma =>
    intro y_ hS_ hO_ hD
    try clear hS
    clear hS_ hO_ hD
    refine s_gcallN (A := B) [.func (.func 13) #[] #[], wideV B] ?_ ?_ (by kernel_rfl) (by kernel_rfl) (by kernel_rfl) ?_ ?_
    rotate_left 2
    · intro r_ hr_
      have o0_ : r_ (.func 13) = .func (.func 13) #[] #[] := op_at hr_ 0 (by kernel_rfl) (by kernel_rfl)
      have o1_ : r_ (.tmp 41) = wideV B := op_at hr_ 1 (by kernel_rfl) (by kernel_rfl)
      clear hr_
      go_simp; first | done | with_reducible rfl | (constructor <;> with_reducible rfl)
    · refine refWide_any (IsWide.of hB).w _
  simp only [Act.put, planVG, List.setIfInBounds_toArray, List.set_cons_zero, List.set_cons_succ, List.getElem?_cons_zero, List.getElem?_cons_succ]
  refine ⟨?_, ?_⟩
  · as_aux_lemma =>
    intro y_ hS_ hO_ hD
    have hS := hS_ (by rfl)
    have n_ : IsN y_ (ρ 1) (A) := hD 1 (by decide) (by rfl)
    clear hS hS_ hO_ hD
    exact s_num (by rfl) (by rfl) (by rfl) n_
  simp only [Act.put, planVG, List.setIfInBounds_toArray, List.set_cons_zero, List.set_cons_succ, List.getElem?_cons_zero, List.getElem?_cons_succ]
  refine ⟨?_, ?_⟩
  · as_aux_lemma =>
    intro y_ hS_ hO_ hD
    have hS := hS_ (by rfl)
    have n_ : IsN y_ (ρ 3) (B) := hD 3 (by decide) (by rfl)
    clear hS hS_ hO_ hD
    exact s_num (by rfl) (by rfl) (by rfl) n_
  simp only [Act.put, planVG, List.setIfInBounds_toArray, List.set_cons_zero, List.set_cons_succ, List.getElem?_cons_zero, List.getElem?_cons_succ]
  as_aux_lemma =>
    intro w5 hS hF hD_
    change wpList _ _ _ _ _ _
    replace hS := sg_no (by decide) hS
    obtain ⟨hk, hZ5, X1, X2, X3, X4, X5, X6⟩ := hS
    have M1 : IsN w5 (ρ 1) (A) := hF 1 (by decide)
    have M3 : IsN w5 (ρ 3) (B) := hF 3 (by decide)
    have M4 : IsN w5 (ρ 4) (A) := hF 4 (by decide)
    have M5 : IsN w5 (ρ 5) (B) := hF 5 (by decide)
    clear hF hD_
    generalize ρ 1 = u5_1 at *
    generalize ρ 3 = u5_3 at *
    generalize ρ 4 = u5_4 at *
    generalize ρ 5 = u5_5 at *
    clear ρ
    have hz_w5 := hk.size
    have X1l := X1.lt
    have X1f := X1.free
    have X1l1 : w.heap.size < w5.heap.size + 1 := by omega
    have X1l2 : w.heap.size < w5.heap.size + 1 + 1 := by omega
    have X1l3 : w.heap.size < w5.heap.size + 1 + 1 + 1 := by omega
    have X10 := X1.cell 0 _ rfl
    have X11 := X1.cell 1 _ rfl
    have X12 := X1.cell 2 _ rfl
    have X13 := X1.cell 3 _ rfl
    have X2l := X2.lt
    have X2f := X2.free
    have X2l1 : w.heap.size + 1 < w5.heap.size + 1 := by omega
    have X2l2 : w.heap.size + 1 < w5.heap.size + 1 + 1 := by omega
    have X2l3 : w.heap.size + 1 < w5.heap.size + 1 + 1 + 1 := by omega
    have X20 := X2.cell 0 _ rfl
    have X21 := X2.cell 1 _ rfl
    have X22 := X2.cell 2 _ rfl
    have X23 := X2.cell 3 _ rfl
    have X3l := X3.lt
    have X3f := X3.free
    have X3l1 : w1.heap.size < w5.heap.size + 1 := by omega
    have X3l2 : w1.heap.size < w5.heap.size + 1 + 1 := by omega
    have X3l3 : w1.heap.size < w5.heap.size + 1 + 1 + 1 := by omega
    have X30 := X3.cell 0 _ rfl
    have X31 := X3.cell 1 _ rfl
    have X32 := X3.cell 2 _ rfl
    have X33 := X3.cell 3 _ rfl
    have X4l := X4.lt
    have X4f := X4.free
    have X4l1 : w2.heap.size < w5.heap.size + 1 := by omega
    have X4l2 : w2.heap.size < w5.heap.size + 1 + 1 := by omega
    have X4l3 : w2.heap.size < w5.heap.size + 1 + 1 + 1 := by omega
    have X40 := X4.cell 0 _ rfl
    have X41 := X4.cell 1 _ rfl
    have X42 := X4.cell 2 _ rfl
    have X43 := X4.cell 3 _ rfl
    have X5l := X5.lt
    have X5f := X5.free
    have X5l1 : w3.heap.size < w5.heap.size + 1 := by omega
    have X5l2 : w3.heap.size < w5.heap.size + 1 + 1 := by omega
    have X5l3 : w3.heap.size < w5.heap.size + 1 + 1 + 1 := by omega
    have X50 := X5.cell 0 _ rfl
    have X51 := X5.cell 1 _ rfl
    have X52 := X5.cell 2 _ rfl
    have X53 := X5.cell 3 _ rfl
    have X6l := X6.lt
    have X6f := X6.free
    have X6l1 : w4.heap.size < w5.heap.size + 1 := by omega
    have X6l2 : w4.heap.size < w5.heap.size + 1 + 1 := by omega
    have X6l3 : w4.heap.size < w5.heap.size + 1 + 1 + 1 := by omega
    have X60 := X6.cell 0 _ rfl
    have X61 := X6.cell 1 _ rfl
    have X62 := X6.cell 2 _ rfl
    have X63 := X6.cell 3 _ rfl
    clear M1
    clear M3
    have N3 := M4
    clear M4
    have N4 := M5
    clear M5
    go_upto_region 6 with fail
    refine wp_region_p 39 (fun W' => Kept w.heap.size w W' ∧ w5.heap.size ≤ W'.heap.size ∧ Box W' (w.heap.size) #[.int .u64 (limb 0 A), .int .u64 (limb 1 A), .int .u64 (limb 2 A), .int .u64 (limb 3 A)] ∧ Box W' (w.heap.size + 1) #[.int .u64 (limb 0 B), .int .u64 (limb 1 B), .int .u64 (limb 2 B), .int .u64 (limb 3 B)] ∧ Box W' (w1.heap.size) #[.int .u64 (limb 0 S), .int .u64 (limb 1 S), .int .u64 (limb 2 S), .int .u64 (limb 3 S)] ∧ Box W' (w2.heap.size) #[.int .u64 (limb 0 S), .int .u64 (limb 1 S), .int .u64 (limb 2 S), .int .u64 (limb 3 S)] ∧ Box W' (w3.heap.size) #[.int .u64 (limb 0 D), .int .u64 (limb 1 D), .int .u64 (limb 2 D), .int .u64 (limb 3 D)] ∧ Box W' (w4.heap.size) #[.int .u64 (limb 0 D), .int .u64 (limb 1 D), .int .u64 (limb 2 D), .int .u64 (limb 3 D)] ∧ IsN W' u5_4 (A) ∧ IsN W' u5_5 (B)) (fun W' => Kept w.heap.size w W' ∧ w5.heap.size ≤ W'.heap.size ∧ Box W' (w.heap.size) #[.int .u64 (limb 0 A), .int .u64 (limb 1 A), .int .u64 (limb 2 A), .int .u64 (limb 3 A)] ∧ Box W' (w.heap.size + 1) #[.int .u64 (limb 0 B), .int .u64 (limb 1 B), .int .u64 (limb 2 B), .int .u64 (limb 3 B)] ∧ Box W' (w1.heap.size) #[.int .u64 (limb 0 S), .int .u64 (limb 1 S), .int .u64 (limb 2 S), .int .u64 (limb 3 S)] ∧ Box W' (w2.heap.size) #[.int .u64 (limb 0 S), .int .u64 (limb 1 S), .int .u64 (limb 2 S), .int .u64 (limb 3 S)] ∧ Box W' (w3.heap.size) #[.int .u64 (limb 0 D), .int .u64 (limb 1 D), .int .u64 (limb 2 D), .int .u64 (limb 3 D)] ∧ Box W' (w4.heap.size) #[.int .u64 (limb 0 D), .int .u64 (limb 1 D), .int .u64 (limb 2 D), .int .u64 (limb 3 D)] ∧ IsN W' u5_4 (A) ∧ IsN W' u5_5 (B)) 1000 (w5.heap.size) [.known (wideV S), .known (wideV S), .known (.bool true), .known (.bool true), .known (.bool (c)), .known (.bool (c)), .known (.bool true), .known (.bool true), .known (.bool true), .known (wideV D), .known (wideV D), .known (.bool true), .known (.bool true), .known (.bool true), .known (.bool (b)), .known (.bool (b)), .known (.bool true), .known (.bool true), .known (.bool true), .known (wideV A), .known (wideV B), .known (.int .i64 (q)), .num (A), .num (B), .known (.int .i64 (q)), .known (.bool true), .known (.bool true), .known (.bool true), .known (wideV A), .known (.bool true), .num (A), .known (.int .i64 (lenN A)), .known (.bool true), .known (.bool true), .known (.bool true), .known (.bool true), .known (.bool true), .known (.bool true), .known (.bool true)] (by kernel_rfl) (by kernel_rfl) (fun W W' h hb => ⟨h.1.step hb, Nat.le_trans (h.2.1) hb.size, Box.call hb (h.2.2.1), Box.call hb (h.2.2.2.1), Box.call hb (h.2.2.2.2.1), Box.call hb (h.2.2.2.2.2.1), Box.call hb (h.2.2.2.2.2.2.1), Box.call hb (h.2.2.2.2.2.2.2.1), IsN.call (h.2.2.2.2.2.2.2.2.1) hb, IsN.call (h.2.2.2.2.2.2.2.2.2) hb⟩) (fun W W' h hb => ⟨h.1.step hb, Nat.le_trans (h.2.1) hb.size, Box.call hb (h.2.2.1), Box.call hb (h.2.2.2.1), Box.call hb (h.2.2.2.2.1), Box.call hb (h.2.2.2.2.2.1), Box.call hb (h.2.2.2.2.2.2.1), Box.call hb (h.2.2.2.2.2.2.2.1), IsN.call (h.2.2.2.2.2.2.2.2.1) hb, IsN.call (h.2.2.2.2.2.2.2.2.2) hb⟩) (no_out (of_decide_eq_true (by kernel_rfl))) (.inl (by kernel_rfl)) (.inl (by kernel_rfl)) (fun _ h => h.2.1) (fun _ h => h.2.1) (⟨(by repeat (first | with_reducible exact hk | with_reducible exact Kept.refl _ | with_reducible refine Kept.alloc ?_ _ | with_reducible refine Kept.drew ?_ | with_reducible refine Kept.setCell ?_ (by simp only [World.size_alloc, World.size_setCell, World.size_drew]; omega) _)), (by (try simp only [World.size_alloc, World.size_setCell, World.size_drew]); omega), (by repeat (first | with_reducible assumption | with_reducible apply Box.set10 | with_reducible apply Box.set20 | with_reducible apply Box.set21 | with_reducible apply Box.set40 | with_reducible apply Box.set41 | with_reducible apply Box.set42 | with_reducible apply Box.set43 | with_reducible apply Box.set50 | with_reducible apply Box.set51 | with_reducible apply Box.set52 | with_reducible apply Box.set53 | with_reducible apply Box.set54 | with_reducible apply Box.drew | (with_reducible apply Box.newAt; (try simp only [World.size_alloc, World.size_setCell, World.size_drew]); done) | with_reducible apply Box.alloc | (with_reducible apply Box.other; case hne => ((try simp only [World.size_alloc, World.size_setCell, World.size_drew]); omega)))), (by repeat (first | with_reducible assumption | with_reducible apply Box.set10 | with_reducible apply Box.set20 | with_reducible apply Box.set21 | with_reducible apply Box.set40 | with_reducible apply Box.set41 | with_reducible apply Box.set42 | with_reducible apply Box.set43 | with_reducible apply Box.set50 | with_reducible apply Box.set51 | with_reducible apply Box.set52 | with_reducible apply Box.set53 | with_reducible apply Box.set54 | with_reducible apply Box.drew | (with_reducible apply Box.newAt; (try simp only [World.size_alloc, World.size_setCell, World.size_drew]); done) | with_reducible apply Box.alloc | (with_reducible apply Box.other; case hne => ((try simp only [World.size_alloc, World.size_setCell, World.size_drew]); omega)))), (by repeat (first | with_reducible assumption | with_reducible apply Box.set10 | with_reducible apply Box.set20 | with_reducible apply Box.set21 | with_reducible apply Box.set40 | with_reducible apply Box.set41 | with_reducible apply Box.set42 | with_reducible apply Box.set43 | with_reducible apply Box.set50 | with_reducible apply Box.set51 | with_reducible apply Box.set52 | with_reducible apply Box.set53 | with_reducible apply Box.set54 | with_reducible apply Box.drew | (with_reducible apply Box.newAt; (try simp only [World.size_alloc, World.size_setCell, World.size_drew]); done) | with_reducible apply Box.alloc | (with_reducible apply Box.other; case hne => ((try simp only [World.size_alloc, World.size_setCell, World.size_drew]); omega)))), (by repeat (first | with_reducible assumption | with_reducible apply Box.set10 | with_reducible apply Box.set20 | with_reducible apply Box.set21 | with_reducible apply Box.set40 | with_reducible apply Box.set41 | with_reducible apply Box.set42 | with_reducible apply Box.set43 | with_reducible apply Box.set50 | with_reducible apply Box.set51 | with_reducible apply Box.set52 | with_reducible apply Box.set53 | with_reducible apply Box.set54 | with_reducible apply Box.drew | (with_reducible apply Box.newAt; (try simp only [World.size_alloc, World.size_setCell, World.size_drew]); done) | with_reducible apply Box.alloc | (with_reducible apply Box.other; case hne => ((try simp only [World.size_alloc, World.size_setCell, World.size_drew]); omega)))), (by repeat (first | with_reducible assumption | with_reducible apply Box.set10 | with_reducible apply Box.set20 | with_reducible apply Box.set21 | with_reducible apply Box.set40 | with_reducible apply Box.set41 | with_reducible apply Box.set42 | with_reducible apply Box.set43 | with_reducible apply Box.set50 | with_reducible apply Box.set51 | with_reducible apply Box.set52 | with_reducible apply Box.set53 | with_reducible apply Box.set54 | with_reducible apply Box.drew | (with_reducible apply Box.newAt; (try simp only [World.size_alloc, World.size_setCell, World.size_drew]); done) | with_reducible apply Box.alloc | (with_reducible apply Box.other; case hne => ((try simp only [World.size_alloc, World.size_setCell, World.size_drew]); omega)))), (by repeat (first | with_reducible assumption | with_reducible apply Box.set10 | with_reducible apply Box.set20 | with_reducible apply Box.set21 | with_reducible apply Box.set40 | with_reducible apply Box.set41 | with_reducible apply Box.set42 | with_reducible apply Box.set43 | with_reducible apply Box.set50 | with_reducible apply Box.set51 | with_reducible apply Box.set52 | with_reducible apply Box.set53 | with_reducible apply Box.set54 | with_reducible apply Box.drew | (with_reducible apply Box.newAt; (try simp only [World.size_alloc, World.size_setCell, World.size_drew]); done) | with_reducible apply Box.alloc | (with_reducible apply Box.other; case hne => ((try simp only [World.size_alloc, World.size_setCell, World.size_drew]); omega)))), (IsN.kept N3 (by repeat (first | with_reducible exact Kept.refl _ | with_reducible refine Kept.alloc ?_ _ | with_reducible refine Kept.drew ?_ | with_reducible refine Kept.setCell ?_ (by simp only [World.size_alloc, World.size_setCell, World.size_drew]; omega) _))), (IsN.kept N4 (by repeat (first | with_reducible exact Kept.refl _ | with_reducible refine Kept.alloc ?_ _ | with_reducible refine Kept.drew ?_ | with_reducible refine Kept.setCell ?_ (by simp only [World.size_alloc, World.size_setCell, World.size_drew]; omega) _)))⟩) ?_
    clear hk
    clear X1 X1l1 X1l2 X1l3 X1f X10 X11 X12 X13
    clear X2 X2l1 X2l2 X2l3 X2f X20 X21 X22 X23
    clear X3 X3l1 X3l2 X3l3 X3f X30 X31 X32 X33
    clear X4 X4l1 X4l2 X4l3 X4f X40 X41 X42 X43
    clear X5 X5l1 X5l2 X5l3 X5f X50 X51 X52 X53
    clear X6 X6l1 X6l2 X6l3 X6f X60 X61 X62 X63
    clear N3
    clear N4
    intro ρ
    simp only [List.take_succ_cons, List.take_zero, List.drop_succ_cons, List.drop_zero]
    refine ⟨?_, ?_⟩
    · as_aux_lemma =>
      intro y_ hS_ hO_ hD
      have Q := ((hS_ (by rfl)).2.2.2.2.1).cell
      have q0 := Q 0 _ rfl
      have q1 := Q 1 _ rfl
      have q2 := Q 2 _ rfl
      have q3 := Q 3 _ rfl
      clear Q hS_ hO_ hD
      refine s_gen (V := wideV S) [.pointer (some ⟨w1.heap.size, 0, none⟩)] (by kernel_rfl) (by kernel_rfl) (by kernel_rfl) ?_
      intro r_ hr_
      have o0_ : r_ (.tmp 5) = .pointer (some ⟨w1.heap.size, 0, none⟩) := op_at hr_ 0 (by kernel_rfl) (by kernel_rfl)
      clear hr_
      go_simp; first | done | with_reducible rfl
    simp only [Act.put, planVG, List.setIfInBounds_toArray, List.set_cons_zero, List.set_cons_succ, List.getElem?_cons_zero, List.getElem?_cons_succ]
    refine ⟨?_, ?_⟩
    · as_aux_lemma =>
      intro y_ hS_ hO_ hD
      have Q := ((hS_ (by rfl)).2.2.2.2.2.1).cell
      have q0 := Q 0 _ rfl
      have q1 := Q 1 _ rfl
      have q2 := Q 2 _ rfl
      have q3 := Q 3 _ rfl
      clear Q hS_ hO_ hD
      refine s_gen (V := wideV S) [.pointer (some ⟨w2.heap.size, 0, none⟩)] (by kernel_rfl) (by kernel_rfl) (by kernel_rfl) ?_
      intro r_ hr_
      have o0_ : r_ (.tmp 7) = .pointer (some ⟨w2.heap.size, 0, none⟩) := op_at hr_ 0 (by kernel_rfl) (by kernel_rfl)
      clear hr_
      go_simp; first | done | with_reducible rfl
    simp only [Act.put, planVG, List.setIfInBounds_toArray, List.set_cons_zero, List.set_cons_succ, List.getElem?_cons_zero, List.getElem?_cons_succ]
    refine ⟨?_, ?_⟩
    · as_aux_lemma =>
      intro y_ hS_ hO_ hD
      clear hS_ hO_ hD
      refine s_gen (V := .bool true) [wideV S, wideV S] (by kernel_rfl) (by kernel_rfl) (by kernel_rfl) ?_
      intro r_ hr_
      have o0_ : r_ (.tmp 43) = wideV S := op_at hr_ 0 (by kernel_rfl) (by kernel_rfl)
      have o1_ : r_ (.tmp 44) = wideV S := op_at hr_ 1 (by kernel_rfl) (by kernel_rfl)
      clear hr_
      go_simp; first | done | with_reducible rfl | omega
    simp only [Act.put, planVG, List.setIfInBounds_toArray, List.set_cons_zero, List.set_cons_succ, List.getElem?_cons_zero, List.getElem?_cons_succ]
    refine ⟨?_, ?_⟩
    · as_aux_lemma =>
      intro y_ hS_ hO_ hD
      clear hS_ hO_ hD
      refine s_gen (V := .bool true) [.bool true] (by kernel_rfl) (by kernel_rfl) (by kernel_rfl) ?_
      intro r_ hr_
      have o0_ : r_ (.tmp 45) = .bool true := op_at hr_ 0 (by kernel_rfl) (by kernel_rfl)
      clear hr_
      go_simp; first | done | with_reducible rfl | omega
    simp only [Act.put, planVG, List.setIfInBounds_toArray, List.set_cons_zero, List.set_cons_succ, List.getElem?_cons_zero, List.getElem?_cons_succ]
    refine ⟨?_, ?_⟩
    · as_aux_lemma =>
      intro y_ hS_ hO_ hD
      clear hS_ hO_ hD
      refine s_gen (V := .bool (c)) [.bool (c)] (by kernel_rfl) (by kernel_rfl) (by kernel_rfl) ?_
      intro r_ hr_
      have o0_ : r_ (.tmp 6) = .bool (c) := op_at hr_ 0 (by kernel_rfl) (by kernel_rfl)
      clear hr_
      go_simp; first | done | with_reducible rfl | omega
    simp only [Act.put, planVG, List.setIfInBounds_toArray, List.set_cons_zero, List.set_cons_succ, List.getElem?_cons_zero, List.getElem?_cons_succ]
    refine ⟨?_, ?_⟩
    · as_aux_lemma =>
      intro y_ hS_ hO_ hD
      clear hS_ hO_ hD
      refine s_gen (V := .bool (c)) [.bool (c)] (by kernel_rfl) (by kernel_rfl) (by kernel_rfl) ?_
      intro r_ hr_
      have o0_ : r_ (.tmp 8) = .bool (c) := op_at hr_ 0 (by kernel_rfl) (by kernel_rfl)
      clear hr_
      go_simp; first | done | with_reducible rfl | omega
    simp only [Act.put, planVG, List.setIfInBounds_toArray, List.set_cons_zero, List.set_cons_succ, List.getElem?_cons_zero, List.getElem?_cons_succ]
    refine ⟨?_, ?_⟩
    · as_aux_lemma =>
      intro y_ hS_ hO_ hD
      clear hS_ hO_ hD
      refine s_gen (V := .bool true) [.bool (c), .bool (c)] (by kernel_rfl) (by kernel_rfl) (by kernel_rfl) ?_
      intro r_ hr_
      have o0_ : r_ (.tmp 47) = .bool (c) := op_at hr_ 0 (by kernel_rfl) (by kernel_rfl)
      have o1_ : r_ (.tmp 48) = .bool (c) := op_at hr_ 1 (by kernel_rfl) (by kernel_rfl)
      clear hr_
      go_simp; first | done | with_reducible rfl | omega
    simp only [Act.put, planVG, List.setIfInBounds_toArray, List.set_cons_zero, List.set_cons_succ, List.getElem?_cons_zero, List.getElem?_cons_succ]
    refine ⟨?_, ?_⟩
    · as_aux_lemma =>
      intro y_ hS_ hO_ hD
      clear hS_ hO_ hD
      refine s_gen (V := .bool true) [.bool true, .bool true, .bool false] (by kernel_rfl) (by kernel_rfl) (by kernel_rfl) ?_
      intro r_ hr_
      have o0_ : r_ (.tmp 46) = .bool true := op_at hr_ 0 (by kernel_rfl) (by kernel_rfl)
      have o1_ : r_ (.tmp 49) = .bool true := op_at hr_ 1 (by kernel_rfl) (by kernel_rfl)
      have o2_ : r_ (.const (.bool false)) = .bool false := op_at hr_ 2 (by kernel_rfl) (by kernel_rfl)
      clear hr_
      go_simp; first | done | with_reducible rfl | omega
    simp only [Act.put, planVG, List.setIfInBounds_toArray, List.set_cons_zero, List.set_cons_succ, List.getElem?_cons_zero, List.getElem?_cons_succ]
    refine ⟨?_, ?_⟩
    · as_aux_lemma =>
      intro y_ hS_ hO_ hD
      clear hS_ hO_ hD
      refine s_gen (V := .bool true) [.bool true] (by kernel_rfl) (by kernel_rfl) (by kernel_rfl) ?_
      intro r_ hr_
      have o0_ : r_ (.tmp 50) = .bool true := op_at hr_ 0 (by kernel_rfl) (by kernel_rfl)
      clear hr_
      go_simp; first | done | with_reducible rfl | omega
    simp only [Act.put, planVG, List.setIfInBounds_toArray, List.set_cons_zero, List.set_cons_succ, List.getElem?_cons_zero, List.getElem?_cons_succ]
    refine ⟨?_, ?_⟩
    · as_aux_lemma =>
      intro y_ hS_ hO_ hD
      have Q := ((hS_ (by rfl)).2.2.2.2.2.2.1).cell
      have q0 := Q 0 _ rfl
      have q1 := Q 1 _ rfl
      have q2 := Q 2 _ rfl
      have q3 := Q 3 _ rfl
      clear Q hS_ hO_ hD
      refine s_gen (V := wideV D) [.pointer (some ⟨w3.heap.size, 0, none⟩)] (by kernel_rfl) (by kernel_rfl) (by kernel_rfl) ?_
      intro r_ hr_
      have o0_ : r_ (.tmp 9) = .pointer (some ⟨w3.heap.size, 0, none⟩) := op_at hr_ 0 (by kernel_rfl) (by kernel_rfl)
      clear hr_
      go_simp; first | done | with_reducible rfl
    simp only [Act.put, planVG, List.setIfInBounds_toArray, List.set_cons_zero, List.set_cons_succ, List.getElem?_cons_zero, List.getElem?_cons_succ]
    refine ⟨?_, ?_⟩
    · as_aux_lemma =>
      intro y_ hS_ hO_ hD
      have Q := ((hS_ (by rfl)).2.2.2.2.2.2.2.1).cell
      have q0 := Q 0 _ rfl
      have q1 := Q 1 _ rfl
      have q2 := Q 2 _ rfl
      have q3 := Q 3 _ rfl
      clear Q hS_ hO_ hD
      refine s_gen (V := wideV D) [.pointer (some ⟨w4.heap.size, 0, none⟩)] (by kernel_rfl) (by kernel_rfl) (by kernel_rfl) ?_
      intro r_ hr_
      have o0_ : r_ (.tmp 11) = .pointer (some ⟨w4.heap.size, 0, none⟩) := op_at hr_ 0 (by kernel_rfl) (by kernel_rfl)
      clear hr_
      go_simp; first | done | with_reducible rfl
    simp only [Act.put, planVG, List.setIfInBounds_toArray, List.set_cons_zero, List.set_cons_succ, List.getElem?_cons_zero, List.getElem?_cons_succ]
    refine ⟨?_, ?_⟩
    · as_aux_lemma =>
      intro y_ hS_ hO_ hD
      clear hS_ hO_ hD
      refine s_gen (V := .bool true) [wideV D, wideV D] (by kernel_rfl) (by kernel_rfl) (by kernel_rfl) ?_
      intro r_ hr_
      have o0_ : r_ (.tmp 52) = wideV D := op_at hr_ 0 (by kernel_rfl) (by kernel_rfl)
      have o1_ : r_ (.tmp 53) = wideV D := op_at hr_ 1 (by kernel_rfl) (by kernel_rfl)
      clear hr_
      go_simp; first | done | with_reducible rfl | omega
    simp only [Act.put, planVG, List.setIfInBounds_toArray, List.set_cons_zero, List.set_cons_succ, List.getElem?_cons_zero, List.getElem?_cons_succ]
    refine ⟨?_, ?_⟩
    · as_aux_lemma =>
      intro y_ hS_ hO_ hD
      clear hS_ hO_ hD
      refine s_gen (V := .bool true) [.bool true, .bool true, .bool false] (by kernel_rfl) (by kernel_rfl) (by kernel_rfl) ?_
      intro r_ hr_
      have o0_ : r_ (.tmp 51) = .bool true := op_at hr_ 0 (by kernel_rfl) (by kernel_rfl)
      have o1_ : r_ (.tmp 54) = .bool true := op_at hr_ 1 (by kernel_rfl) (by kernel_rfl)
      have o2_ : r_ (.const (.bool false)) = .bool false := op_at hr_ 2 (by kernel_rfl) (by kernel_rfl)
      clear hr_
      go_simp; first | done | with_reducible rfl | omega
    simp only [Act.put, planVG, List.setIfInBounds_toArray, List.set_cons_zero, List.set_cons_succ, List.getElem?_cons_zero, List.getElem?_cons_succ]
    refine ⟨?_, ?_⟩
    · as_aux_lemma =>
      intro y_ hS_ hO_ hD
      clear hS_ hO_ hD
      refine s_gen (V := .bool true) [.bool true] (by kernel_rfl) (by kernel_rfl) (by kernel_rfl) ?_
      intro r_ hr_
      have o0_ : r_ (.tmp 55) = .bool true := op_at hr_ 0 (by kernel_rfl) (by kernel_rfl)
      clear hr_
      go_simp; first | done | with_reducible rfl | omega
    simp only [Act.put, planVG, List.setIfInBounds_toArray, List.set_cons_zero, List.set_cons_succ, List.getElem?_cons_zero, List.getElem?_cons_succ]
    refine ⟨?_, ?_⟩
    · as_aux_lemma =>
      intro y_ hS_ hO_ hD
      clear hS_ hO_ hD
      refine s_gen (V := .bool (b)) [.bool (b)] (by kernel_rfl) (by kernel_rfl) (by kernel_rfl) ?_
      intro r_ hr_
      have o0_ : r_ (.tmp 10) = .bool (b) := op_at hr_ 0 (by kernel_rfl) (by kernel_rfl)
      clear hr_
      go_simp; first | done | with_reducible rfl | omega
    simp only [Act.put, planVG, List.setIfInBounds_toArray, List.set_cons_zero, List.set_cons_succ, List.getElem?_cons_zero, List.getElem?_cons_succ]
    refine ⟨?_, ?_⟩
    · as_aux_lemma =>
      intro y_ hS_ hO_ hD
      clear hS_ hO_ hD
      refine s_gen (V := .bool (b)) [.bool (b)] (by kernel_rfl) (by kernel_rfl) (by kernel_rfl) ?_
      intro r_ hr_
      have o0_ : r_ (.tmp 12) = .bool (b) := op_at hr_ 0 (by kernel_rfl) (by kernel_rfl)
      clear hr_
      go_simp; first | done | with_reducible rfl | omega
    simp only [Act.put, planVG, List.setIfInBounds_toArray, List.set_cons_zero, List.set_cons_succ, List.getElem?_cons_zero, List.getElem?_cons_succ]
    refine ⟨?_, ?_⟩
    · as_aux_lemma =>
      intro y_ hS_ hO_ hD
      clear hS_ hO_ hD
      refine s_gen (V := .bool true) [.bool (b), .bool (b)] (by kernel_rfl) (by kernel_rfl) (by kernel_rfl) ?_
      intro r_ hr_
      have o0_ : r_ (.tmp 57) = .bool (b) := op_at hr_ 0 (by kernel_rfl) (by kernel_rfl)
      have o1_ : r_ (.tmp 58) = .bool (b) := op_at hr_ 1 (by kernel_rfl) (by kernel_rfl)
      clear hr_
      go_simp; first | done | with_reducible rfl | omega
    simp only [Act.put, planVG, List.setIfInBounds_toArray, List.set_cons_zero, List.set_cons_succ, List.getElem?_cons_zero, List.getElem?_cons_succ]
    refine ⟨?_, ?_⟩
    · as_aux_lemma =>
      intro y_ hS_ hO_ hD
      clear hS_ hO_ hD
      refine s_gen (V := .bool true) [.bool true, .bool true, .bool false] (by kernel_rfl) (by kernel_rfl) (by kernel_rfl) ?_
      intro r_ hr_
      have o0_ : r_ (.tmp 56) = .bool true := op_at hr_ 0 (by kernel_rfl) (by kernel_rfl)
      have o1_ : r_ (.tmp 59) = .bool true := op_at hr_ 1 (by kernel_rfl) (by kernel_rfl)
      have o2_ : r_ (.const (.bool false)) = .bool false := op_at hr_ 2 (by kernel_rfl) (by kernel_rfl)
      clear hr_
      go_simp; first | done | with_reducible rfl | omega
    simp only [Act.put, planVG, List.setIfInBounds_toArray, List.set_cons_zero, List.set_cons_succ, List.getElem?_cons_zero, List.getElem?_cons_succ]
    refine ⟨?_, ?_⟩
    · as_aux_lemma =>
      intro y_ hS_ hO_ hD
      clear hS_ hO_ hD
      refine s_gen (V := .bool true) [.bool true] (by kernel_rfl) (by kernel_rfl) (by kernel_rfl) ?_
      intro r_ hr_
      have o0_ : r_ (.tmp 60) = .bool true := op_at hr_ 0 (by kernel_rfl) (by kernel_rfl)
      clear hr_
      go_simp; first | done | with_reducible rfl | omega
    simp only [Act.put, planVG, List.setIfInBounds_toArray, List.set_cons_zero, List.set_cons_succ, List.getElem?_cons_zero, List.getElem?_cons_succ]
    refine ⟨?_, ?_⟩
    · as_aux_lemma =>
      intro y_ hS_ hO_ hD
      have Q := ((hS_ (by rfl)).2.2.1).cell
      have q0 := Q 0 _ rfl
      have q1 := Q 1 _ rfl
      have q2 := Q 2 _ rfl
      have q3 := Q 3 _ rfl
      clear Q hS_ hO_ hD
      refine s_gen (V := wideV A) [.pointer (some ⟨w.heap.size, 0, none⟩)] (by kernel_rfl) (by kernel_rfl) (by kernel_rfl) ?_
      intro r_ hr_
      have o0_ : r_ (.tmp 2) = .pointer (some ⟨w.heap.size, 0, none⟩) := op_at hr_ 0 (by kernel_rfl) (by kernel_rfl)
      clear hr_
      go_simp; first | done | with_reducible rfl
    simp only [Act.put, planVG, List.setIfInBounds_toArray, List.set_cons_zero, List.set_cons_succ, List.getElem?_cons_zero, List.getElem?_cons_succ]
    refine ⟨?_, ?_⟩
    · as_aux_lemma =>
      intro y_ hS_ hO_ hD
      have Q := ((hS_ (by rfl)).2.2.2.1).cell
      have q0 := Q 0 _ rfl
      have q1 := Q 1 _ rfl
      have q2 := Q 2 _ rfl
      have q3 := Q 3 _ rfl
      clear Q hS_ hO_ hD
      refine s_gen (V := wideV B) [.pointer (some ⟨w.heap.size + 1, 0, none⟩)] (by kernel_rfl) (by kernel_rfl) (by kernel_rfl) ?_
      intro r_ hr_
      have o0_ : r_ (.tmp 3) = .pointer (some ⟨w.heap.size + 1, 0, none⟩) := op_at hr_ 0 (by kernel_rfl) (by kernel_rfl)
      clear hr_
      go_simp; first | done | with_reducible rfl
    simp only [Act.put, planVG, List.setIfInBounds_toArray, List.set_cons_zero, List.set_cons_succ, List.getElem?_cons_zero, List.getElem?_cons_succ]
    refine ⟨?_, ?_⟩
    · as_aux_lemma =>
      intro y_ hS_ hO_ hD
      try clear hS
      clear hS_ hO_ hD
      refine s_gcall (V := .int .i64 (q)) [.func (.func 44) #[] #[], wideV A, wideV B] ?_ ?_ (by kernel_rfl) (by kernel_rfl) (by kernel_rfl) ?_ ?_
      rotate_left 2
      · intro r_ hr_
        have o0_ : r_ (.func 44) = .func (.func 44) #[] #[] := op_at hr_ 0 (by kernel_rfl) (by kernel_rfl)
        have o1_ : r_ (.tmp 62) = wideV A := op_at hr_ 1 (by kernel_rfl) (by kernel_rfl)
        have o2_ : r_ (.tmp 63) = wideV B := op_at hr_ 2 (by kernel_rfl) (by kernel_rfl)
        clear hr_
        go_simp; first | done | with_reducible rfl | (constructor <;> with_reducible rfl)
      · refine calls_to (V := .int .i64 (q)) (CmpW_at (IsWide.of hA) (IsWide.of hB) _) (by rw [HQ.out])
    simp only [Act.put, planVG, List.setIfInBounds_toArray, List.set_cons_zero, List.set_cons_succ, List.getElem?_cons_zero, List.getElem?_cons_succ]
    refine ⟨?_, ?_⟩
    · as_aux_lemma =>
      intro y_ hS_ hO_ hD
      have hS := hS_ (by rfl)
      have n_ : IsN y_ (u5_4) (A) := hS.2.2.2.2.2.2.2.2.1
      clear hS hS_ hO_ hD
      exact s_num (by rfl) (by rfl) (by rfl) n_
    simp only [Act.put, planVG, List.setIfInBounds_toArray, List.set_cons_zero, List.set_cons_succ, List.getElem?_cons_zero, List.getElem?_cons_succ]
    refine ⟨?_, ?_⟩
    · as_aux_lemma =>
      intro y_ hS_ hO_ hD
      have hS := hS_ (by rfl)
      have n_ : IsN y_ (u5_5) (B) := hS.2.2.2.2.2.2.2.2.2
      clear hS hS_ hO_ hD
      exact s_num (by rfl) (by rfl) (by rfl) n_
    simp only [Act.put, planVG, List.setIfInBounds_toArray, List.set_cons_zero, List.set_cons_succ, List.getElem?_cons_zero, List.getElem?_cons_succ]
    refine ⟨?_, ?_⟩
    · as_aux_lemma =>
      intro y_ hS_ hO_ hD
      have n_22 : IsN y_ (ρ 22) (A) := hD 22 (by decide) (by rfl)
      have n_23 : IsN y_ (ρ 23) (B) := hD 23 (by decide) (by rfl)
      try clear hS
      clear hS_ hO_ hD
      refine s_gcall (V := .int .i64 (q)) [.func (.func 30) #[] #[], ρ 22, ρ 23] ?_ ?_ (by kernel_rfl) (by kernel_rfl) (by kernel_rfl) ?_ ?_
      rotate_left 2
      · intro r_ hr_
        have o0_ : r_ (.func 30) = .func (.func 30) #[] #[] := op_at hr_ 0 (by kernel_rfl) (by kernel_rfl)
        have o1_ : r_ (.tmp 65) = ρ 22 := op_at hr_ 1 (by kernel_rfl) (by kernel_rfl)
        have o2_ : r_ (.tmp 66) = ρ 23 := op_at hr_ 2 (by kernel_rfl) (by kernel_rfl)
        clear hr_
        go_simp; first | done | with_reducible rfl | (constructor <;> with_reducible rfl)
      · refine calls_to (V := .int .i64 (q)) (refCmp_any _ n_22 n_23 (by omega) (by omega)) (by rw [HQ.out])
    simp only [Act.put, planVG, List.setIfInBounds_toArray, List.set_cons_zero, List.set_cons_succ, List.getElem?_cons_zero, List.getElem?_cons_succ]
    refine ⟨?_, ?_⟩
    · as_aux_lemma =>
      intro y_ hS_ hO_ hD
      clear hS_ hO_ hD
      refine s_gen (V := .bool true) [.int .i64 (q), .int .i64 (q)] (by kernel_rfl) (by kernel_rfl) (by kernel_rfl) ?_
      intro r_ hr_
      have o0_ : r_ (.tmp 64) = .int .i64 (q) := op_at hr_ 0 (by kernel_rfl) (by kernel_rfl)
      have o1_ : r_ (.tmp 67) = .int .i64 (q) := op_at hr_ 1 (by kernel_rfl) (by kernel_rfl)
      clear hr_
      go_simp; first | done | with_reducible rfl | omega
    simp only [Act.put, planVG, List.setIfInBounds_toArray, List.set_cons_zero, List.set_cons_succ, List.getElem?_cons_zero, List.getElem?_cons_succ]
    refine ⟨?_, ?_⟩
    · as_aux_lemma =>
      intro y_ hS_ hO_ hD
      clear hS_ hO_ hD
      refine s_gen (V := .bool true) [.bool true, .bool true, .bool false] (by kernel_rfl) (by kernel_rfl) (by kernel_rfl) ?_
      intro r_ hr_
      have o0_ : r_ (.tmp 61) = .bool true := op_at hr_ 0 (by kernel_rfl) (by kernel_rfl)
      have o1_ : r_ (.tmp 68) = .bool true := op_at hr_ 1 (by kernel_rfl) (by kernel_rfl)
      have o2_ : r_ (.const (.bool false)) = .bool false := op_at hr_ 2 (by kernel_rfl) (by kernel_rfl)
      clear hr_
      go_simp; first | done | with_reducible rfl | omega
    simp only [Act.put, planVG, List.setIfInBounds_toArray, List.set_cons_zero, List.set_cons_succ, List.getElem?_cons_zero, List.getElem?_cons_succ]
    refine ⟨?_, ?_⟩
    · as_aux_lemma =>
      intro y_ hS_ hO_ hD
      clear hS_ hO_ hD
      refine s_gen (V := .bool true) [.bool true] (by kernel_rfl) (by kernel_rfl) (by kernel_rfl) ?_
      intro r_ hr_
      have o0_ : r_ (.tmp 69) = .bool true := op_at hr_ 0 (by kernel_rfl) (by kernel_rfl)
      clear hr_
      go_simp; first | done | with_reducible rfl | omega
    simp only [Act.put, planVG, List.setIfInBounds_toArray, List.set_cons_zero, List.set_cons_succ, List.getElem?_cons_zero, List.getElem?_cons_succ]
    refine ⟨?_, ?_⟩
    · as_aux_lemma =>
      intro y_ hS_ hO_ hD
      have Q := ((hS_ (by rfl)).2.2.1).cell
      have q0 := Q 0 _ rfl
      have q1 := Q 1 _ rfl
      have q2 := Q 2 _ rfl
      have q3 := Q 3 _ rfl
      clear Q hS_ hO_ hD
      refine s_gen (V := wideV A) [.pointer (some ⟨w.heap.size, 0, none⟩)] (by kernel_rfl) (by kernel_rfl) (by kernel_rfl) ?_
      intro r_ hr_
      have o0_ : r_ (.tmp 2) = .pointer (some ⟨w.heap.size, 0, none⟩) := op_at hr_ 0 (by kernel_rfl) (by kernel_rfl)
      clear hr_
      go_simp; first | done | with_reducible rfl
    simp only [Act.put, planVG, List.setIfInBounds_toArray, List.set_cons_zero, List.set_cons_succ, List.getElem?_cons_zero, List.getElem?_cons_succ]
    refine ⟨?_, ?_⟩
    · as_aux_lemma =>
      intro y_ hS_ hO_ hD
      try clear hS
      clear hS_ hO_ hD
      refine s_gcall (V := .bool true) [.func (.func 45) #[] #[], wideV A] ?_ ?_ (by kernel_rfl) (by kernel_rfl) (by kernel_rfl) ?_ ?_
      rotate_left 2
      · intro r_ hr_
        have o0_ : r_ (.func 45) = .func (.func 45) #[] #[] := op_at hr_ 0 (by kernel_rfl) (by kernel_rfl)
        have o1_ : r_ (.tmp 71) = wideV A := op_at hr_ 1 (by kernel_rfl) (by kernel_rfl)
        clear hr_
        go_simp; first | done | with_reducible rfl | (constructor <;> with_reducible rfl)
      · refine calls_to (V := .bool true) (ZeroW_at (IsWide.of hA) _) (by rw [HZ.out])
    simp only [Act.put, planVG, List.setIfInBounds_toArray, List.set_cons_zero, List.set_cons_succ, List.getElem?_cons_zero, List.getElem?_cons_succ]
    refine ⟨?_, ?_⟩
    · as_aux_lemma =>
      intro y_ hS_ hO_ hD
      have hS := hS_ (by rfl)
      have n_ : IsN y_ (u5_4) (A) := hS.2.2.2.2.2.2.2.2.1
      clear hS hS_ hO_ hD
      exact s_num (by rfl) (by rfl) (by rfl) n_
    simp only [Act.put, planVG, List.setIfInBounds_toArray, List.set_cons_zero, List.set_cons_succ, List.getElem?_cons_zero, List.getElem?_cons_succ]
    refine ⟨?_, ?_⟩
    · as_aux_lemma =>
      intro y_ hS_ hO_ hD
      have hS := hS_ (by rfl)
      have n_ : IsN y_ (ρ 30) (A) := hD 30 (by decide) (by rfl)
      clear hS hS_ hO_ hD
      obtain ⟨ad_, c_, e_, _, _⟩ := n_.open
      clear n_
      refine s_val (by rfl) (by rfl) ?_
      simp only [e_]
      go_simp; first | done | with_reducible rfl | rfl
    simp only [Act.put, planVG, List.setIfInBounds_toArray, List.set_cons_zero, List.set_cons_succ, List.getElem?_cons_zero, List.getElem?_cons_succ]
    refine ⟨?_, ?_⟩
    · as_aux_lemma =>
      intro y_ hS_ hO_ hD
      clear hS_ hO_ hD
      refine s_gen (V := .bool true) [.int .i64 (lenN A), .int .i64 0] (by kernel_rfl) (by kernel_rfl) (by kernel_rfl) ?_
      intro r_ hr_
      have o0_ : r_ (.tmp 74) = .int .i64 (lenN A) := op_at hr_ 0 (by kernel_rfl) (by kernel_rfl)
      have o1_ : r_ (.const (.int .i64 0)) = .int .i64 0 := op_at hr_ 1 (by kernel_rfl) (by kernel_rfl)
      clear hr_
      go_simp; first | done | with_reducible rfl | omega
    simp only [Act.put, planVG, List.setIfInBounds_toArray, List.set_cons_zero, List.set_cons_succ, List.getElem?_cons_zero, List.getElem?_cons_succ]
    refine ⟨?_, ?_⟩
    · as_aux_lemma =>
      intro y_ hS_ hO_ hD
      clear hS_ hO_ hD
      refine s_gen (V := .bool true) [.bool true, .bool true] (by kernel_rfl) (by kernel_rfl) (by kernel_rfl) ?_
      intro r_ hr_
      have o0_ : r_ (.tmp 72) = .bool true := op_at hr_ 0 (by kernel_rfl) (by kernel_rfl)
      have o1_ : r_ (.tmp 75) = .bool true := op_at hr_ 1 (by kernel_rfl) (by kernel_rfl)
      clear hr_
      go_simp; first | done | with_reducible rfl | omega
    simp only [Act.put, planVG, List.setIfInBounds_toArray, List.set_cons_zero, List.set_cons_succ, List.getElem?_cons_zero, List.getElem?_cons_succ]
    refine ⟨?_, ?_⟩
    · as_aux_lemma =>
      intro y_ hS_ hO_ hD
      clear hS_ hO_ hD
      refine s_gen (V := .bool true) [.bool true, .bool true, .bool false] (by kernel_rfl) (by kernel_rfl) (by kernel_rfl) ?_
      intro r_ hr_
      have o0_ : r_ (.tmp 70) = .bool true := op_at hr_ 0 (by kernel_rfl) (by kernel_rfl)
      have o1_ : r_ (.tmp 76) = .bool true := op_at hr_ 1 (by kernel_rfl) (by kernel_rfl)
      have o2_ : r_ (.const (.bool false)) = .bool false := op_at hr_ 2 (by kernel_rfl) (by kernel_rfl)
      clear hr_
      go_simp; first | done | with_reducible rfl | omega
    simp only [Act.put, planVG, List.setIfInBounds_toArray, List.set_cons_zero, List.set_cons_succ, List.getElem?_cons_zero, List.getElem?_cons_succ]
    refine ⟨?_, ?_⟩
    · as_aux_lemma =>
      intro y_ hS_ hO_ hD
      clear hS_ hO_ hD
      refine s_gen (V := .bool true) [.bool true] (by kernel_rfl) (by kernel_rfl) (by kernel_rfl) ?_
      intro r_ hr_
      have o0_ : r_ (.tmp 77) = .bool true := op_at hr_ 0 (by kernel_rfl) (by kernel_rfl)
      clear hr_
      go_simp; first | done | with_reducible rfl | omega
    simp only [Act.put, planVG, List.setIfInBounds_toArray, List.set_cons_zero, List.set_cons_succ, List.getElem?_cons_zero, List.getElem?_cons_succ]
    refine ⟨?_, ?_⟩
    · as_aux_lemma =>
      intro y_ hS_ hO_ hD
      try clear hS
      clear hS_ hO_ hD
      refine s_gcall (V := .bool true) [.func (.func 26) #[] #[]] ?_ ?_ (by kernel_rfl) (by kernel_rfl) (by kernel_rfl) ?_ ?_
      rotate_left 2
      · intro r_ hr_
        have o0_ : r_ (.func 26) = .func (.func 26) #[] #[] := op_at hr_ 0 (by kernel_rfl) (by kernel_rfl)
        clear hr_
        go_simp; first | done | with_reducible rfl | (constructor <;> with_reducible rfl)
      · refine counts02_any _
    simp only [Act.put, planVG, List.setIfInBounds_toArray, List.set_cons_zero, List.set_cons_succ, List.getElem?_cons_zero, List.getElem?_cons_succ]
    refine ⟨?_, ?_⟩
    · as_aux_lemma =>
      intro y_ hS_ hO_ hD
      clear hS_ hO_ hD
      refine s_gen (V := .bool true) [.bool true, .bool true, .bool false] (by kernel_rfl) (by kernel_rfl) (by kernel_rfl) ?_
      intro r_ hr_
      have o0_ : r_ (.tmp 78) = .bool true := op_at hr_ 0 (by kernel_rfl) (by kernel_rfl)
      have o1_ : r_ (.tmp 79) = .bool true := op_at hr_ 1 (by kernel_rfl) (by kernel_rfl)
      have o2_ : r_ (.const (.bool false)) = .bool false := op_at hr_ 2 (by kernel_rfl) (by kernel_rfl)
      clear hr_
      go_simp; first | done | with_reducible rfl | omega
    simp only [Act.put, planVG, List.setIfInBounds_toArray, List.set_cons_zero, List.set_cons_succ, List.getElem?_cons_zero, List.getElem?_cons_succ]
    refine ⟨?_, ?_⟩
    · as_aux_lemma =>
      intro y_ hS_ hO_ hD
      clear hS_ hO_ hD
      refine s_gen (V := .bool true) [.bool true] (by kernel_rfl) (by kernel_rfl) (by kernel_rfl) ?_
      intro r_ hr_
      have o0_ : r_ (.tmp 80) = .bool true := op_at hr_ 0 (by kernel_rfl) (by kernel_rfl)
      clear hr_
      go_simp; first | done | with_reducible rfl | omega
    simp only [Act.put, planVG, List.setIfInBounds_toArray, List.set_cons_zero, List.set_cons_succ, List.getElem?_cons_zero, List.getElem?_cons_succ]
    as_aux_lemma =>
      intro w6 hS hF hD_
      change wpList _ _ _ _ _ _
      replace hS := sg_no (by decide) hS
      obtain ⟨hk, hZ6, X1, X2, X3, X4, X5, X6, N3, N4⟩ := hS
      have M22 : IsN w6 (ρ 22) (A) := hF 22 (by decide)
      have M23 : IsN w6 (ρ 23) (B) := hF 23 (by decide)
      have M30 : IsN w6 (ρ 30) (A) := hF 30 (by decide)
      clear hF hD_
      generalize ρ 22 = u6_22 at *
      generalize ρ 23 = u6_23 at *
      generalize ρ 30 = u6_30 at *
      clear ρ
      have hz_w6 := hk.size
      have X1l := X1.lt
      have X1f := X1.free
      have X1l1 : w.heap.size < w6.heap.size + 1 := by omega
      have X1l2 : w.heap.size < w6.heap.size + 1 + 1 := by omega
      have X1l3 : w.heap.size < w6.heap.size + 1 + 1 + 1 := by omega
      have X10 := X1.cell 0 _ rfl
      have X11 := X1.cell 1 _ rfl
      have X12 := X1.cell 2 _ rfl
      have X13 := X1.cell 3 _ rfl
      have X2l := X2.lt
      have X2f := X2.free
      have X2l1 : w.heap.size + 1 < w6.heap.size + 1 := by omega
      have X2l2 : w.heap.size + 1 < w6.heap.size + 1 + 1 := by omega
      have X2l3 : w.heap.size + 1 < w6.heap.size + 1 + 1 + 1 := by omega
      have X20 := X2.cell 0 _ rfl
      have X21 := X2.cell 1 _ rfl
      have X22 := X2.cell 2 _ rfl
      have X23 := X2.cell 3 _ rfl
      have X3l := X3.lt
      have X3f := X3.free
      have X3l1 : w1.heap.size < w6.heap.size + 1 := by omega
      have X3l2 : w1.heap.size < w6.heap.size + 1 + 1 := by omega
      have X3l3 : w1.heap.size < w6.heap.size + 1 + 1 + 1 := by omega
      have X30 := X3.cell 0 _ rfl
      have X31 := X3.cell 1 _ rfl
      have X32 := X3.cell 2 _ rfl
      have X33 := X3.cell 3 _ rfl
      have X4l := X4.lt
      have X4f := X4.free
      have X4l1 : w2.heap.size < w6.heap.size + 1 := by omega
      have X4l2 : w2.heap.size < w6.heap.size + 1 + 1 := by omega
      have X4l3 : w2.heap.size < w6.heap.size + 1 + 1 + 1 := by omega
      have X40 := X4.cell 0 _ rfl
      have X41 := X4.cell 1 _ rfl
      have X42 := X4.cell 2 _ rfl
      have X43 := X4.cell 3 _ rfl
      have X5l := X5.lt
      have X5f := X5.free
      have X5l1 : w3.heap.size < w6.heap.size + 1 := by omega
      have X5l2 : w3.heap.size < w6.heap.size + 1 + 1 := by omega
      have X5l3 : w3.heap.size < w6.heap.size + 1 + 1 + 1 := by omega
      have X50 := X5.cell 0 _ rfl
      have X51 := X5.cell 1 _ rfl
      have X52 := X5.cell 2 _ rfl
      have X53 := X5.cell 3 _ rfl
      have X6l := X6.lt
      have X6f := X6.free
      have X6l1 : w4.heap.size < w6.heap.size + 1 := by omega
      have X6l2 : w4.heap.size < w6.heap.size + 1 + 1 := by omega
      have X6l3 : w4.heap.size < w6.heap.size + 1 + 1 + 1 := by omega
      have X60 := X6.cell 0 _ rfl
      have X61 := X6.cell 1 _ rfl
      have X62 := X6.cell 2 _ rfl
      have X63 := X6.cell 3 _ rfl
      clear M22
      clear M23
      clear M30
      go_wp2
      go_ret
      exact ⟨rfl, (by refine Kept.below ?_; repeat (first | with_reducible exact hk | with_reducible exact Kept.refl _ | with_reducible refine Kept.alloc ?_ _ | with_reducible refine Kept.drew ?_ | with_reducible refine Kept.setCell ?_ (by simp only [World.size_alloc, World.size_setCell, World.size_drew]; omega) _))⟩

set_option maxRecDepth 100000 in
set_option maxHeartbeats 8000000 in
theorem WideSums_more {A B S D : Nat} {c b : Bool} {q : Int} (hA : W256 A) (hB : W256 B) (hS : W256 S) (hD : W256 D) (eS : add256 A B = S) (eD : sub256 A B = D) (eC : carry256 A B = c) (eB : ltB A B = b) (eQ : cmpN A B = q) (h0 : ¬ A = 0) (w : World) :
    Calls Try.prog 6 #[wideV A, wideV B] w fun e w' => e = .returned (.bool true) ∧ Below w.heap.size w w' := by
  have hk := Kept.refl w
  have HS := Lib.hid eS; have HD := Lib.hid eD; have HC := Lib.hid eC; have HB := Lib.hid eB; have HQ := Lib.hid eQ
  have la := len256 hA; have lb := len256 hB
  have HZ := Lib.hid (show zeroB A = false from decide_eq_false h0)
  have z2 : ¬ ((lenN A : Nat) : Int) = 0 := by have := @lenN_eq_zero A; omega
  have z3 : ¬ lenN A = 0 := by have := @lenN_eq_zero A; omega
  clear h0 eS eD eC eB eQ
  go_enter Try.func6, Try.ntmps6
  go_wp2_with fail
  (with_reducible refine (calls_to (V := .tuple #[wideV S, .bool (c)]) (AddW_at (IsWide.of hA) (IsWide.of hB) _) (by rw [HS.out, HC.out])).mono ?_)
  rintro e w1 ⟨rfl, hb⟩
  have X1' : Box w1 (w.heap.size) #[.int .u64 (limb 0 A), .int .u64 (limb 1 A), .int .u64 (limb 2 A), .int .u64 (limb 3 A)] := Box.call hb (by repeat (first | with_reducible assumption | with_reducible apply Box.set10 | with_reducible apply Box.set20 | with_reducible apply Box.set21 | with_reducible apply Box.set40 | with_reducible apply Box.set41 | with_reducible apply Box.set42 | with_reducible apply Box.set43 | with_reducible apply Box.set50 | with_reducible apply Box.set51 | with_reducible apply Box.set52 | with_reducible apply Box.set53 | with_reducible apply Box.set54 | with_reducible apply Box.drew | (with_reducible apply Box.newAt; (try simp only [World.size_alloc, World.size_setCell, World.size_drew]); done) | with_reducible apply Box.alloc | (with_reducible apply Box.other; case hne => ((try simp only [World.size_alloc, World.size_setCell, World.size_drew]); omega))))
  have X2' : Box w1 (w.heap.size + 1) #[.int .u64 (limb 0 B), .int .u64 (limb 1 B), .int .u64 (limb 2 B), .int .u64 (limb 3 B)] := Box.call hb (by repeat (first | with_reducible assumption | with_reducible apply Box.set10 | with_reducible apply Box.set20 | with_reducible apply Box.set21 | with_reducible apply Box.set40 | with_reducible apply Box.set41 | with_reducible apply Box.set42 | with_reducible apply Box.set43 | with_reducible apply Box.set50 | with_reducible apply Box.set51 | with_reducible apply Box.set52 | with_reducible apply Box.set53 | with_reducible apply Box.set54 | with_reducible apply Box.drew | (with_reducible apply Box.newAt; (try simp only [World.size_alloc, World.size_setCell, World.size_drew]); done) | with_reducible apply Box.alloc | (with_reducible apply Box.other; case hne => ((try simp only [World.size_alloc, World.size_setCell, World.size_drew]); omega))))
  have hk' : Kept w.heap.size w w1 := Kept.step (by repeat (first | with_reducible exact hk | with_reducible exact Kept.refl _ | with_reducible refine Kept.alloc ?_ _ | with_reducible refine Kept.drew ?_ | with_reducible refine Kept.setCell ?_ (by simp only [World.size_alloc, World.size_setCell, World.size_drew]; omega) _)) hb
  clear hk hb
  have X1 := X1'
  clear X1'
  have X2 := X2'
  clear X2'
  have hk := hk'
  clear hk'
  have hz_w1 := hk.size
  have X1l := X1.lt
  have X1f := X1.free
  have X1l1 : w.heap.size < w1.heap.size + 1 := by omega
  have X1l2 : w.heap.size < w1.heap.size + 1 + 1 := by omega
  have X1l3 : w.heap.size < w1.heap.size + 1 + 1 + 1 := by omega
  have X10 := X1.cell 0 _ rfl
  have X11 := X1.cell 1 _ rfl
  have X12 := X1.cell 2 _ rfl
  have X13 := X1.cell 3 _ rfl
  have X2l := X2.lt
  have X2f := X2.free
  have X2l1 : w.heap.size + 1 < w1.heap.size + 1 := by omega
  have X2l2 : w.heap.size + 1 < w1.heap.size + 1 + 1 := by omega
  have X2l3 : w.heap.size + 1 < w1.heap.size + 1 + 1 + 1 := by omega
  have X20 := X2.cell 0 _ rfl
  have X21 := X2.cell 1 _ rfl
  have X22 := X2.cell 2 _ rfl
  have X23 := X2.cell 3 _ rfl
  go_wp2_with fail
  (with_reducible refine (calls_to (V := .tuple #[wideV S, .bool (c)]) (ref02Add_any (IsWide.of hA).w (IsWide.of hB).w _) (by rw [HS.out, HC.out])).mono ?_)
  rintro e w2 ⟨rfl, hb⟩
  have X1' : Box w2 (w.heap.size) #[.int .u64 (limb 0 A), .int .u64 (limb 1 A), .int .u64 (limb 2 A), .int .u64 (limb 3 A)] := Box.call hb (by repeat (first | with_reducible assumption | with_reducible apply Box.set10 | with_reducible apply Box.set20 | with_reducible apply Box.set21 | with_reducible apply Box.set40 | with_reducible apply Box.set41 | with_reducible apply Box.set42 | with_reducible apply Box.set43 | with_reducible apply Box.set50 | with_reducible apply Box.set51 | with_reducible apply Box.set52 | with_reducible apply Box.set53 | with_reducible apply Box.set54 | with_reducible apply Box.drew | (with_reducible apply Box.newAt; (try simp only [World.size_alloc, World.size_setCell, World.size_drew]); done) | with_reducible apply Box.alloc | (with_reducible apply Box.other; case hne => ((try simp only [World.size_alloc, World.size_setCell, World.size_drew]); omega))))
  have X2' : Box w2 (w.heap.size + 1) #[.int .u64 (limb 0 B), .int .u64 (limb 1 B), .int .u64 (limb 2 B), .int .u64 (limb 3 B)] := Box.call hb (by repeat (first | with_reducible assumption | with_reducible apply Box.set10 | with_reducible apply Box.set20 | with_reducible apply Box.set21 | with_reducible apply Box.set40 | with_reducible apply Box.set41 | with_reducible apply Box.set42 | with_reducible apply Box.set43 | with_reducible apply Box.set50 | with_reducible apply Box.set51 | with_reducible apply Box.set52 | with_reducible apply Box.set53 | with_reducible apply Box.set54 | with_reducible apply Box.drew | (with_reducible apply Box.newAt; (try simp only [World.size_alloc, World.size_setCell, World.size_drew]); done) | with_reducible apply Box.alloc | (with_reducible apply Box.other; case hne => ((try simp only [World.size_alloc, World.size_setCell, World.size_drew]); omega))))
  have X3' : Box w2 (w1.heap.size) #[.int .u64 (limb 0 S), .int .u64 (limb 1 S), .int .u64 (limb 2 S), .int .u64 (limb 3 S)] := Box.call hb (by repeat (first | with_reducible assumption | with_reducible apply Box.set10 | with_reducible apply Box.set20 | with_reducible apply Box.set21 | with_reducible apply Box.set40 | with_reducible apply Box.set41 | with_reducible apply Box.set42 | with_reducible apply Box.set43 | with_reducible apply Box.set50 | with_reducible apply Box.set51 | with_reducible apply Box.set52 | with_reducible apply Box.set53 | with_reducible apply Box.set54 | with_reducible apply Box.drew | (with_reducible apply Box.newAt; (try simp only [World.size_alloc, World.size_setCell, World.size_drew]); done) | with_reducible apply Box.alloc | (with_reducible apply Box.other; case hne => ((try simp only [World.size_alloc, World.size_setCell, World.size_drew]); omega))))
  have hk' : Kept w.heap.size w w2 := Kept.step (by repeat (first | with_reducible exact hk | with_reducible exact Kept.refl _ | with_reducible refine Kept.alloc ?_ _ | with_reducible refine Kept.drew ?_ | with_reducible refine Kept.setCell ?_ (by simp only [World.size_alloc, World.size_setCell, World.size_drew]; omega) _)) hb
  clear hk hb
  clear X1 X1l1 X1l2 X1l3 X1f X10 X11 X12 X13
  clear X2 X2l1 X2l2 X2l3 X2f X20 X21 X22 X23
  have X1 := X1'
  clear X1'
  have X2 := X2'
  clear X2'
  have X3 := X3'
  clear X3'
  have hk := hk'
  clear hk'
  have hz_w2 := hk.size
  have X1l := X1.lt
  have X1f := X1.free
  have X1l1 : w.heap.size < w2.heap.size + 1 := by omega
  have X1l2 : w.heap.size < w2.heap.size + 1 + 1 := by omega
  have X1l3 : w.heap.size < w2.heap.size + 1 + 1 + 1 := by omega
  have X10 := X1.cell 0 _ rfl
  have X11 := X1.cell 1 _ rfl
  have X12 := X1.cell 2 _ rfl
  have X13 := X1.cell 3 _ rfl
  have X2l := X2.lt
  have X2f := X2.free
  have X2l1 : w.heap.size + 1 < w2.heap.size + 1 := by omega
  have X2l2 : w.heap.size + 1 < w2.heap.size + 1 + 1 := by omega
  have X2l3 : w.heap.size + 1 < w2.heap.size + 1 + 1 + 1 := by omega
  have X20 := X2.cell 0 _ rfl
  have X21 := X2.cell 1 _ rfl
  have X22 := X2.cell 2 _ rfl
  have X23 := X2.cell 3 _ rfl
  have X3l := X3.lt
  have X3f := X3.free
  have X3l1 : w1.heap.size < w2.heap.size + 1 := by omega
  have X3l2 : w1.heap.size < w2.heap.size + 1 + 1 := by omega
  have X3l3 : w1.heap.size < w2.heap.size + 1 + 1 + 1 := by omega
  have X30 := X3.cell 0 _ rfl
  have X31 := X3.cell 1 _ rfl
  have X32 := X3.cell 2 _ rfl
  have X33 := X3.cell 3 _ rfl
  go_wp2_with fail
  (with_reducible refine (calls_to (V := .tuple #[wideV D, .bool (b)]) (SubW_at (IsWide.of hA) (IsWide.of hB) _) (by rw [HD.out, HB.out])).mono ?_)
  rintro e w3 ⟨rfl, hb⟩
  have X1' : Box w3 (w.heap.size) #[.int .u64 (limb 0 A), .int .u64 (limb 1 A), .int .u64 (limb 2 A), .int .u64 (limb 3 A)] := Box.call hb (by repeat (first | with_reducible assumption | with_reducible apply Box.set10 | with_reducible apply Box.set20 | with_reducible apply Box.set21 | with_reducible apply Box.set40 | with_reducible apply Box.set41 | with_reducible apply Box.set42 | with_reducible apply Box.set43 | with_reducible apply Box.set50 | with_reducible apply Box.set51 | with_reducible apply Box.set52 | with_reducible apply Box.set53 | with_reducible apply Box.set54 | with_reducible apply Box.drew | (with_reducible apply Box.newAt; (try simp only [World.size_alloc, World.size_setCell, World.size_drew]); done) | with_reducible apply Box.alloc | (with_reducible apply Box.other; case hne => ((try simp only [World.size_alloc, World.size_setCell, World.size_drew]); omega))))
  have X2' : Box w3 (w.heap.size + 1) #[.int .u64 (limb 0 B), .int .u64 (limb 1 B), .int .u64 (limb 2 B), .int .u64 (limb 3 B)] := Box.call hb (by repeat (first | with_reducible assumption | with_reducible apply Box.set10 | with_reducible apply Box.set20 | with_reducible apply Box.set21 | with_reducible apply Box.set40 | with_reducible apply Box.set41 | with_reducible apply Box.set42 | with_reducible apply Box.set43 | with_reducible apply Box.set50 | with_reducible apply Box.set51 | with_reducible apply Box.set52 | with_reducible apply Box.set53 | with_reducible apply Box.set54 | with_reducible apply Box.drew | (with_reducible apply Box.newAt; (try simp only [World.size_alloc, World.size_setCell, World.size_drew]); done) | with_reducible apply Box.alloc | (with_reducible apply Box.other; case hne => ((try simp only [World.size_alloc, World.size_setCell, World.size_drew]); omega))))
  have X3' : Box w3 (w1.heap.size) #[.int .u64 (limb 0 S), .int .u64 (limb 1 S), .int .u64 (limb 2 S), .int .u64 (limb 3 S)] := Box.call hb (by repeat (first | with_reducible assumption | with_reducible apply Box.set10 | with_reducible apply Box.set20 | with_reducible apply Box.set21 | with_reducible apply Box.set40 | with_reducible apply Box.set41 | with_reducible apply Box.set42 | with_reducible apply Box.set43 | with_reducible apply Box.set50 | with_reducible apply Box.set51 | with_reducible apply Box.set52 | with_reducible apply Box.set53 | with_reducible apply Box.set54 | with_reducible apply Box.drew | (with_reducible apply Box.newAt; (try simp only [World.size_alloc, World.size_setCell, World.size_drew]); done) | with_reducible apply Box.alloc | (with_reducible apply Box.other; case hne => ((try simp only [World.size_alloc, World.size_setCell, World.size_drew]); omega))))
  have X4' : Box w3 (w2.heap.size) #[.int .u64 (limb 0 S), .int .u64 (limb 1 S), .int .u64 (limb 2 S), .int .u64 (limb 3 S)] := Box.call hb (by repeat (first | with_reducible assumption | with_reducible apply Box.set10 | with_reducible apply Box.set20 | with_reducible apply Box.set21 | with_reducible apply Box.set40 | with_reducible apply Box.set41 | with_reducible apply Box.set42 | with_reducible apply Box.set43 | with_reducible apply Box.set50 | with_reducible apply Box.set51 | with_reducible apply Box.set52 | with_reducible apply Box.set53 | with_reducible apply Box.set54 | with_reducible apply Box.drew | (with_reducible apply Box.newAt; (try simp only [World.size_alloc, World.size_setCell, World.size_drew]); done) | with_reducible apply Box.alloc | (with_reducible apply Box.other; case hne => ((try simp only [World.size_alloc, World.size_setCell, World.size_drew]); omega))))
  have hk' : Kept w.heap.size w w3 := Kept.step (by repeat (first | with_reducible exact hk | with_reducible exact Kept.refl _ | with_reducible refine Kept.alloc ?_ _ | with_reducible refine Kept.drew ?_ | with_reducible refine Kept.setCell ?_ (by simp only [World.size_alloc, World.size_setCell, World.size_drew]; omega) _)) hb
  clear hk hb
  clear X1 X1l1 X1l2 X1l3 X1f X10 X11 X12 X13
  clear X2 X2l1 X2l2 X2l3 X2f X20 X21 X22 X23
  clear X3 X3l1 X3l2 X3l3 X3f X30 X31 X32 X33
  have X1 := X1'
  clear X1'
  have X2 := X2'
  clear X2'
  have X3 := X3'
  clear X3'
  have X4 := X4'
  clear X4'
  have hk := hk'
  clear hk'
  have hz_w3 := hk.size
  have X1l := X1.lt
  have X1f := X1.free
  have X1l1 : w.heap.size < w3.heap.size + 1 := by omega
  have X1l2 : w.heap.size < w3.heap.size + 1 + 1 := by omega
  have X1l3 : w.heap.size < w3.heap.size + 1 + 1 + 1 := by omega
  have X10 := X1.cell 0 _ rfl
  have X11 := X1.cell 1 _ rfl
  have X12 := X1.cell 2 _ rfl
  have X13 := X1.cell 3 _ rfl
  have X2l := X2.lt
  have X2f := X2.free
  have X2l1 : w.heap.size + 1 < w3.heap.size + 1 := by omega
  have X2l2 : w.heap.size + 1 < w3.heap.size + 1 + 1 := by omega
  have X2l3 : w.heap.size + 1 < w3.heap.size + 1 + 1 + 1 := by omega
  have X20 := X2.cell 0 _ rfl
  have X21 := X2.cell 1 _ rfl
  have X22 := X2.cell 2 _ rfl
  have X23 := X2.cell 3 _ rfl
  have X3l := X3.lt
  have X3f := X3.free
  have X3l1 : w1.heap.size < w3.heap.size + 1 := by omega
  have X3l2 : w1.heap.size < w3.heap.size + 1 + 1 := by omega
  have X3l3 : w1.heap.size < w3.heap.size + 1 + 1 + 1 := by omega
  have X30 := X3.cell 0 _ rfl
  have X31 := X3.cell 1 _ rfl
  have X32 := X3.cell 2 _ rfl
  have X33 := X3.cell 3 _ rfl
  have X4l := X4.lt
  have X4f := X4.free
  have X4l1 : w2.heap.size < w3.heap.size + 1 := by omega
  have X4l2 : w2.heap.size < w3.heap.size + 1 + 1 := by omega
  have X4l3 : w2.heap.size < w3.heap.size + 1 + 1 + 1 := by omega
  have X40 := X4.cell 0 _ rfl
  have X41 := X4.cell 1 _ rfl
  have X42 := X4.cell 2 _ rfl
  have X43 := X4.cell 3 _ rfl
  go_wp2_with fail
  (with_reducible refine (calls_to (V := .tuple #[wideV D, .bool (b)]) (ref02Sub_any (IsWide.of hA).w (IsWide.of hB).w _) (by rw [HD.out, HB.out])).mono ?_)
  rintro e w4 ⟨rfl, hb⟩
  have X1' : Box w4 (w.heap.size) #[.int .u64 (limb 0 A), .int .u64 (limb 1 A), .int .u64 (limb 2 A), .int .u64 (limb 3 A)] := Box.call hb (by repeat (first | with_reducible assumption | with_reducible apply Box.set10 | with_reducible apply Box.set20 | with_reducible apply Box.set21 | with_reducible apply Box.set40 | with_reducible apply Box.set41 | with_reducible apply Box.set42 | with_reducible apply Box.set43 | with_reducible apply Box.set50 | with_reducible apply Box.set51 | with_reducible apply Box.set52 | with_reducible apply Box.set53 | with_reducible apply Box.set54 | with_reducible apply Box.drew | (with_reducible apply Box.newAt; (try simp only [World.size_alloc, World.size_setCell, World.size_drew]); done) | with_reducible apply Box.alloc | (with_reducible apply Box.other; case hne => ((try simp only [World.size_alloc, World.size_setCell, World.size_drew]); omega))))
  have X2' : Box w4 (w.heap.size + 1) #[.int .u64 (limb 0 B), .int .u64 (limb 1 B), .int .u64 (limb 2 B), .int .u64 (limb 3 B)] := Box.call hb (by repeat (first | with_reducible assumption | with_reducible apply Box.set10 | with_reducible apply Box.set20 | with_reducible apply Box.set21 | with_reducible apply Box.set40 | with_reducible apply Box.set41 | with_reducible apply Box.set42 | with_reducible apply Box.set43 | with_reducible apply Box.set50 | with_reducible apply Box.set51 | with_reducible apply Box.set52 | with_reducible apply Box.set53 | with_reducible apply Box.set54 | with_reducible apply Box.drew | (with_reducible apply Box.newAt; (try simp only [World.size_alloc, World.size_setCell, World.size_drew]); done) | with_reducible apply Box.alloc | (with_reducible apply Box.other; case hne => ((try simp only [World.size_alloc, World.size_setCell, World.size_drew]); omega))))
  have X3' : Box w4 (w1.heap.size) #[.int .u64 (limb 0 S), .int .u64 (limb 1 S), .int .u64 (limb 2 S), .int .u64 (limb 3 S)] := Box.call hb (by repeat (first | with_reducible assumption | with_reducible apply Box.set10 | with_reducible apply Box.set20 | with_reducible apply Box.set21 | with_reducible apply Box.set40 | with_reducible apply Box.set41 | with_reducible apply Box.set42 | with_reducible apply Box.set43 | with_reducible apply Box.set50 | with_reducible apply Box.set51 | with_reducible apply Box.set52 | with_reducible apply Box.set53 | with_reducible apply Box.set54 | with_reducible apply Box.drew | (with_reducible apply Box.newAt; (try simp only [World.size_alloc, World.size_setCell, World.size_drew]); done) | with_reducible apply Box.alloc | (with_reducible apply Box.other; case hne => ((try simp only [World.size_alloc, World.size_setCell, World.size_drew]); omega))))
  have X4' : Box w4 (w2.heap.size) #[.int .u64 (limb 0 S), .int .u64 (limb 1 S), .int .u64 (limb 2 S), .int .u64 (limb 3 S)] := Box.call hb (by repeat (first | with_reducible assumption | with_reducible apply Box.set10 | with_reducible apply Box.set20 | with_reducible apply Box.set21 | with_reducible apply Box.set40 | with_reducible apply Box.set41 | with_reducible apply Box.set42 | with_reducible apply Box.set43 | with_reducible apply Box.set50 | with_reducible apply Box.set51 | with_reducible apply Box.set52 | with_reducible apply Box.set53 | with_reducible apply Box.set54 | with_reducible apply Box.drew | (with_reducible apply Box.newAt; (try simp only [World.size_alloc, World.size_setCell, World.size_drew]); done) | with_reducible apply Box.alloc | (with_reducible apply Box.other; case hne => ((try simp only [World.size_alloc, World.size_setCell, World.size_drew]); omega))))
  have X5' : Box w4 (w3.heap.size) #[.int .u64 (limb 0 D), .int .u64 (limb 1 D), .int .u64 (limb 2 D), .int .u64 (limb 3 D)] := Box.call hb (by repeat (first | with_reducible assumption | with_reducible apply Box.set10 | with_reducible apply Box.set20 | with_reducible apply Box.set21 | with_reducible apply Box.set40 | with_reducible apply Box.set41 | with_reducible apply Box.set42 | with_reducible apply Box.set43 | with_reducible apply Box.set50 | with_reducible apply Box.set51 | with_reducible apply Box.set52 | with_reducible apply Box.set53 | with_reducible apply Box.set54 | with_reducible apply Box.drew | (with_reducible apply Box.newAt; (try simp only [World.size_alloc, World.size_setCell, World.size_drew]); done) | with_reducible apply Box.alloc | (with_reducible apply Box.other; case hne => ((try simp only [World.size_alloc, World.size_setCell, World.size_drew]); omega))))
  have hk' : Kept w.heap.size w w4 := Kept.step (by repeat (first | with_reducible exact hk | with_reducible exact Kept.refl _ | with_reducible refine Kept.alloc ?_ _ | with_reducible refine Kept.drew ?_ | with_reducible refine Kept.setCell ?_ (by simp only [World.size_alloc, World.size_setCell, World.size_drew]; omega) _)) hb
  clear hk hb
  clear X1 X1l1 X1l2 X1l3 X1f X10 X11 X12 X13
  clear X2 X2l1 X2l2 X2l3 X2f X20 X21 X22 X23
  clear X3 X3l1 X3l2 X3l3 X3f X30 X31 X32 X33
  clear X4 X4l1 X4l2 X4l3 X4f X40 X41 X42 X43
  have X1 := X1'
  clear X1'
  have X2 := X2'
  clear X2'
  have X3 := X3'
  clear X3'
  have X4 := X4'
  clear X4'
  have X5 := X5'
  clear X5'
  have hk := hk'
  clear hk'
  have hz_w4 := hk.size
  have X1l := X1.lt
  have X1f := X1.free
  have X1l1 : w.heap.size < w4.heap.size + 1 := by omega
  have X1l2 : w.heap.size < w4.heap.size + 1 + 1 := by omega
  have X1l3 : w.heap.size < w4.heap.size + 1 + 1 + 1 := by omega
  have X10 := X1.cell 0 _ rfl
  have X11 := X1.cell 1 _ rfl
  have X12 := X1.cell 2 _ rfl
  have X13 := X1.cell 3 _ rfl
  have X2l := X2.lt
  have X2f := X2.free
  have X2l1 : w.heap.size + 1 < w4.heap.size + 1 := by omega
  have X2l2 : w.heap.size + 1 < w4.heap.size + 1 + 1 := by omega
  have X2l3 : w.heap.size + 1 < w4.heap.size + 1 + 1 + 1 := by omega
  have X20 := X2.cell 0 _ rfl
  have X21 := X2.cell 1 _ rfl
  have X22 := X2.cell 2 _ rfl
  have X23 := X2.cell 3 _ rfl
  have X3l := X3.lt
  have X3f := X3.free
  have X3l1 : w1.heap.size < w4.heap.size + 1 := by omega
  have X3l2 : w1.heap.size < w4.heap.size + 1 + 1 := by omega
  have X3l3 : w1.heap.size < w4.heap.size + 1 + 1 + 1 := by omega
  have X30 := X3.cell 0 _ rfl
  have X31 := X3.cell 1 _ rfl
  have X32 := X3.cell 2 _ rfl
  have X33 := X3.cell 3 _ rfl
  have X4l := X4.lt
  have X4f := X4.free
  have X4l1 : w2.heap.size < w4.heap.size + 1 := by omega
  have X4l2 : w2.heap.size < w4.heap.size + 1 + 1 := by omega
  have X4l3 : w2.heap.size < w4.heap.size + 1 + 1 + 1 := by omega
  have X40 := X4.cell 0 _ rfl
  have X41 := X4.cell 1 _ rfl
  have X42 := X4.cell 2 _ rfl
  have X43 := X4.cell 3 _ rfl
  have X5l := X5.lt
  have X5f := X5.free
  have X5l1 : w3.heap.size < w4.heap.size + 1 := by omega
  have X5l2 : w3.heap.size < w4.heap.size + 1 + 1 := by omega
  have X5l3 : w3.heap.size < w4.heap.size + 1 + 1 + 1 := by omega
  have X50 := X5.cell 0 _ rfl
  have X51 := X5.cell 1 _ rfl
  have X52 := X5.cell 2 _ rfl
  have X53 := X5.cell 3 _ rfl
  go_wp2
  refine wp_region_g 6 (fun W' => Kept w.heap.size w W' ∧ w4.heap.size + 1 ≤ W'.heap.size ∧ Box W' (w.heap.size) #[.int .u64 (limb 0 A), .int .u64 (limb 1 A), .int .u64 (limb 2 A), .int .u64 (limb 3 A)] ∧ Box W' (w.heap.size + 1) #[.int .u64 (limb 0 B), .int .u64 (limb 1 B), .int .u64 (limb 2 B), .int .u64 (limb 3 B)] ∧ Box W' (w1.heap.size) #[.int .u64 (limb 0 S), .int .u64 (limb 1 S), .int .u64 (limb 2 S), .int .u64 (limb 3 S)] ∧ Box W' (w2.heap.size) #[.int .u64 (limb 0 S), .int .u64 (limb 1 S), .int .u64 (limb 2 S), .int .u64 (limb 3 S)] ∧ Box W' (w3.heap.size) #[.int .u64 (limb 0 D), .int .u64 (limb 1 D), .int .u64 (limb 2 D), .int .u64 (limb 3 D)] ∧ Box W' (w4.heap.size) #[.int .u64 (limb 0 D), .int .u64 (limb 1 D), .int .u64 (limb 2 D), .int .u64 (limb 3 D)]) (fun W' => Kept w.heap.size w W' ∧ w4.heap.size + 1 ≤ W'.heap.size ∧ Box W' (w.heap.size) #[.int .u64 (limb 0 A), .int .u64 (limb 1 A), .int .u64 (limb 2 A), .int .u64 (limb 3 A)] ∧ Box W' (w.heap.size + 1) #[.int .u64 (limb 0 B), .int .u64 (limb 1 B), .int .u64 (limb 2 B), .int .u64 (limb 3 B)] ∧ Box W' (w1.heap.size) #[.int .u64 (limb 0 S), .int .u64 (limb 1 S), .int .u64 (limb 2 S), .int .u64 (limb 3 S)] ∧ Box W' (w2.heap.size) #[.int .u64 (limb 0 S), .int .u64 (limb 1 S), .int .u64 (limb 2 S), .int .u64 (limb 3 S)] ∧ Box W' (w3.heap.size) #[.int .u64 (limb 0 D), .int .u64 (limb 1 D), .int .u64 (limb 2 D), .int .u64 (limb 3 D)] ∧ Box W' (w4.heap.size) #[.int .u64 (limb 0 D), .int .u64 (limb 1 D), .int .u64 (limb 2 D), .int .u64 (limb 3 D)]) 1000 (w4.heap.size + 1) [.known (wideV A), .num (A), .known (wideV B), .num (B), .num (A), .num (B)] (by kernel_rfl) (by kernel_rfl) (fun W W' h hb => ⟨h.1.step hb, Nat.le_trans (h.2.1) hb.size, Box.call hb (h.2.2.1), Box.call hb (h.2.2.2.1), Box.call hb (h.2.2.2.2.1), Box.call hb (h.2.2.2.2.2.1), Box.call hb (h.2.2.2.2.2.2.1), Box.call hb (h.2.2.2.2.2.2.2)⟩) (fun W W' h hb => ⟨h.1.step hb, Nat.le_trans (h.2.1) hb.size, Box.call hb (h.2.2.1), Box.call hb (h.2.2.2.1), Box.call hb (h.2.2.2.2.1), Box.call hb (h.2.2.2.2.2.1), Box.call hb (h.2.2.2.2.2.2.1), Box.call hb (h.2.2.2.2.2.2.2)⟩) (no_out (of_decide_eq_true (by kernel_rfl))) (.inl (by kernel_rfl)) (.inl (by kernel_rfl)) (fun _ h => h.2.1) (fun _ h => h.2.1) (⟨(by repeat (first | with_reducible exact hk | with_reducible exact Kept.refl _ | with_reducible refine Kept.alloc ?_ _ | with_reducible refine Kept.drew ?_ | with_reducible refine Kept.setCell ?_ (by simp only [World.size_alloc, World.size_setCell, World.size_drew]; omega) _)), (by (try simp only [World.size_alloc, World.size_setCell, World.size_drew]); omega), (by repeat (first | with_reducible assumption | with_reducible apply Box.set10 | with_reducible apply Box.set20 | with_reducible apply Box.set21 | with_reducible apply Box.set40 | with_reducible apply Box.set41 | with_reducible apply Box.set42 | with_reducible apply Box.set43 | with_reducible apply Box.set50 | with_reducible apply Box.set51 | with_reducible apply Box.set52 | with_reducible apply Box.set53 | with_reducible apply Box.set54 | with_reducible apply Box.drew | (with_reducible apply Box.newAt; (try simp only [World.size_alloc, World.size_setCell, World.size_drew]); done) | with_reducible apply Box.alloc | (with_reducible apply Box.other; case hne => ((try simp only [World.size_alloc, World.size_setCell, World.size_drew]); omega)))), (by repeat (first | with_reducible assumption | with_reducible apply Box.set10 | with_reducible apply Box.set20 | with_reducible apply Box.set21 | with_reducible apply Box.set40 | with_reducible apply Box.set41 | with_reducible apply Box.set42 | with_reducible apply Box.set43 | with_reducible apply Box.set50 | with_reducible apply Box.set51 | with_reducible apply Box.set52 | with_reducible apply Box.set53 | with_reducible apply Box.set54 | with_reducible apply Box.drew | (with_reducible apply Box.newAt; (try simp only [World.size_alloc, World.size_setCell, World.size_drew]); done) | with_reducible apply Box.alloc | (with_reducible apply Box.other; case hne => ((try simp only [World.size_alloc, World.size_setCell, World.size_drew]); omega)))), (by repeat (first | with_reducible assumption | with_reducible apply Box.set10 | with_reducible apply Box.set20 | with_reducible apply Box.set21 | with_reducible apply Box.set40 | with_reducible apply Box.set41 | with_reducible apply Box.set42 | with_reducible apply Box.set43 | with_reducible apply Box.set50 | with_reducible apply Box.set51 | with_reducible apply Box.set52 | with_reducible apply Box.set53 | with_reducible apply Box.set54 | with_reducible apply Box.drew | (with_reducible apply Box.newAt; (try simp only [World.size_alloc, World.size_setCell, World.size_drew]); done) | with_reducible apply Box.alloc | (with_reducible apply Box.other; case hne => ((try simp only [World.size_alloc, World.size_setCell, World.size_drew]); omega)))), (by repeat (first | with_reducible assumption | with_reducible apply Box.set10 | with_reducible apply Box.set20 | with_reducible apply Box.set21 | with_reducible apply Box.set40 | with_reducible apply Box.set41 | with_reducible apply Box.set42 | with_reducible apply Box.set43 | with_reducible apply Box.set50 | with_reducible apply Box.set51 | with_reducible apply Box.set52 | with_reducible apply Box.set53 | with_reducible apply Box.set54 | with_reducible apply Box.drew | (with_reducible apply Box.newAt; (try simp only [World.size_alloc, World.size_setCell, World.size_drew]); done) | with_reducible apply Box.alloc | (with_reducible apply Box.other; case hne => ((try simp only [World.size_alloc, World.size_setCell, World.size_drew]); omega)))), (by repeat (first | with_reducible assumption | with_reducible apply Box.set10 | with_reducible apply Box.set20 | with_reducible apply Box.set21 | with_reducible apply Box.set40 | with_reducible apply Box.set41 | with_reducible apply Box.set42 | with_reducible apply Box.set43 | with_reducible apply Box.set50 | with_reducible apply Box.set51 | with_reducible apply Box.set52 | with_reducible apply Box.set53 | with_reducible apply Box.set54 | with_reducible apply Box.drew | (with_reducible apply Box.newAt; (try simp only [World.size_alloc, World.size_setCell, World.size_drew]); done) | with_reducible apply Box.alloc | (with_reducible apply Box.other; case hne => ((try simp only [World.size_alloc, World.size_setCell, World.size_drew]); omega)))), (by repeat (first | with_reducible assumption | with_reducible apply Box.set10 | with_reducible apply Box.set20 | with_reducible apply Box.set21 | with_reducible apply Box.set40 | with_reducible apply Box.set41 | with_reducible apply Box.set42 | with_reducible apply Box.set43 | with_reducible apply Box.set50 | with_reducible apply Box.set51 | with_reducible apply Box.set52 | with_reducible apply Box.set53 | with_reducible apply Box.set54 | with_reducible apply Box.drew | (with_reducible apply Box.newAt; (try simp only [World.size_alloc, World.size_setCell, World.size_drew]); done) | with_reducible apply Box.alloc | (with_reducible apply Box.other; case hne => ((try simp only [World.size_alloc, World.size_setCell, World.size_drew]); omega))))⟩) ?_
  clear hk
  clear X1 X1l1 X1l2 X1l3 X1f X10 X11 X12 X13
  clear X2 X2l1 X2l2 X2l3 X2f X20 X21 X22 X23
  clear X3 X3l1 X3l2 X3l3 X3f X30 X31 X32 X33
  clear X4 X4l1 X4l2 X4l3 X4f X40 X41 X42 X43
  clear X5 X5l1 X5l2 X5l3 X5f X50 X51 X52 X53
  intro ρ
  simp only [List.take_succ_cons, List.take_zero, List.drop_succ_cons, List.drop_zero]
  refine ⟨?_, ?_⟩
  · as_aux_lemma =>
    intro y_ hS_ hO_ hD
    have Q := ((hS_ (by rfl)).2.2.1).cell
    have q0 := Q 0 _ rfl
    have q1 := Q 1 _ rfl
    have q2 := Q 2 _ rfl
    have q3 := Q 3 _ rfl
    clear Q hS_ hO_ hD
    refine s_gen (V := wideV A) [.pointer (some ⟨w.heap.size, 0, none⟩)] (by kernel_rfl) (by kernel_rfl) (by kernel_rfl) ?_
    intro r_ hr_
    have o0_ : r_ (.tmp 2) = .pointer (some ⟨w.heap.size, 0, none⟩) := op_at hr_ 0 (by kernel_rfl) (by kernel_rfl)
    clear hr_
    go_simp; first | done | with_reducible rfl
  simp only [Act.put, planVG, List.setIfInBounds_toArray, List.set_cons_zero, List.set_cons_succ, List.getElem?_cons_zero, List.getElem?_cons_succ]
  refine ⟨?_, ?_⟩
  · as_aux_lemma =>
    intro y_ hS_ hO_ hD
    try clear hS
    clear hS_ hO_ hD
    refine s_gcallN (A := A) [.func (.func 13) #[] #[], wideV A] ?_ ?_ (by kernel_rfl) (by kernel_rfl) (by kernel_rfl) ?_ ?_
    rotate_left 2
    · intro r_ hr_
      have o0_ : r_ (.func 13) = .func (.func 13) #[] #[] := op_at hr_ 0 (by kernel_rfl) (by kernel_rfl)
      have o1_ : r_ (.tmp 39) = wideV A := op_at hr_ 1 (by kernel_rfl) (by kernel_rfl)
      clear hr_
      go_simp; first | done | with_reducible rfl | (constructor <;> with_reducible rfl)
    · refine refWide_any (IsWide.of hA).w _
  simp only [Act.put, planVG, List.setIfInBounds_toArray, List.set_cons_zero, List.set_cons_succ, List.getElem?_cons_zero, List.getElem?_cons_succ]
  refine ⟨?_, ?_⟩
  · as_aux_lemma =>
    intro y_ hS_ hO_ hD
    have Q := ((hS_ (by rfl)).2.2.2.1).cell
    have q0 := Q 0 _ rfl
    have q1 := Q 1 _ rfl
    have q2 := Q 2 _ rfl
    have q3 := Q 3 _ rfl
    clear Q hS_ hO_ hD
    refine s_gen (V := wideV B) [.pointer (some ⟨w.heap.size + 1, 0, none⟩)] (by kernel_rfl) (by kernel_rfl) (by kernel_rfl) ?_
    intro r_ hr_
    have o0_ : r_ (.tmp 3) = .pointer (some ⟨w.heap.size + 1, 0, none⟩) := op_at hr_ 0 (by kernel_rfl) (by kernel_rfl)
    clear hr_
    go_simp; first | done | with_reducible rfl
  simp only [Act.put, planVG, List.setIfInBounds_toArray, List.set_cons_zero, List.set_cons_succ, List.getElem?_cons_zero, List.getElem?_cons_succ]
  refine ⟨?_, ?_⟩
  · as_aux_lemma =>
    intro y_ hS_ hO_ hD
    try clear hS
    clear hS_ hO_ hD
    refine s_gcallN (A := B) [.func (.func 13) #[] #[], wideV B] ?_ ?_ (by kernel_rfl) (by kernel_rfl) (by kernel_rfl) ?_ ?_
    rotate_left 2
    · intro r_ hr_
      have o0_ : r_ (.func 13) = .func (.func 13) #[] #[] := op_at hr_ 0 (by kernel_rfl) (by kernel_rfl)
      have o1_ : r_ (.tmp 41) = wideV B := op_at hr_ 1 (by kernel_rfl) (by kernel_rfl)
      clear hr_
      go_simp; first | done | with_reducible rfl | (constructor <;> with_reducible rfl)
    · refine refWide_any (IsWide.of hB).w _
  simp only [Act.put, planVG, List.setIfInBounds_toArray, List.set_cons_zero, List.set_cons_succ, List.getElem?_cons_zero, List.getElem?_cons_succ]
  refine ⟨?_, ?_⟩
  · as_aux_lemma =>
    intro y_ hS_ hO_ hD
    have hS := hS_ (by rfl)
    have n_ : IsN y_ (ρ 1) (A) := hD 1 (by decide) (by rfl)
    clear hS hS_ hO_ hD
    exact s_num (by rfl) (by rfl) (by rfl) n_
  simp only [Act.put, planVG, List.setIfInBounds_toArray, List.set_cons_zero, List.set_cons_succ, List.getElem?_cons_zero, List.getElem?_cons_succ]
  refine ⟨?_, ?_⟩
  · as_aux_lemma =>
    intro y_ hS_ hO_ hD
    have hS := hS_ (by rfl)
    have n_ : IsN y_ (ρ 3) (B) := hD 3 (by decide) (by rfl)
    clear hS hS_ hO_ hD
    exact s_num (by rfl) (by rfl) (by rfl) n_
  simp only [Act.put, planVG, List.setIfInBounds_toArray, List.set_cons_zero, List.set_cons_succ, List.getElem?_cons_zero, List.getElem?_cons_succ]
  as_aux_lemma =>
    intro w5 hS hF hD_
    change wpList _ _ _ _ _ _
    replace hS := sg_no (by decide) hS
    obtain ⟨hk, hZ5, X1, X2, X3, X4, X5, X6⟩ := hS
    have M1 : IsN w5 (ρ 1) (A) := hF 1 (by decide)
    have M3 : IsN w5 (ρ 3) (B) := hF 3 (by decide)
    have M4 : IsN w5 (ρ 4) (A) := hF 4 (by decide)
    have M5 : IsN w5 (ρ 5) (B) := hF 5 (by decide)
    clear hF hD_
    generalize ρ 1 = u5_1 at *
    generalize ρ 3 = u5_3 at *
    generalize ρ 4 = u5_4 at *
    generalize ρ 5 = u5_5 at *
    clear ρ
    have hz_w5 := hk.size
    have X1l := X1.lt
    have X1f := X1.free
    have X1l1 : w.heap.size < w5.heap.size + 1 := by omega
    have X1l2 : w.heap.size < w5.heap.size + 1 + 1 := by omega
    have X1l3 : w.heap.size < w5.heap.size + 1 + 1 + 1 := by omega
    have X10 := X1.cell 0 _ rfl
    have X11 := X1.cell 1 _ rfl
    have X12 := X1.cell 2 _ rfl
    have X13 := X1.cell 3 _ rfl
    have X2l := X2.lt
    have X2f := X2.free
    have X2l1 : w.heap.size + 1 < w5.heap.size + 1 := by omega
    have X2l2 : w.heap.size + 1 < w5.heap.size + 1 + 1 := by omega
    have X2l3 : w.heap.size + 1 < w5.heap.size + 1 + 1 + 1 := by omega
    have X20 := X2.cell 0 _ rfl
    have X21 := X2.cell 1 _ rfl
    have X22 := X2.cell 2 _ rfl
    have X23 := X2.cell 3 _ rfl
    have X3l := X3.lt
    have X3f := X3.free
    have X3l1 : w1.heap.size < w5.heap.size + 1 := by omega
    have X3l2 : w1.heap.size < w5.heap.size + 1 + 1 := by omega
    have X3l3 : w1.heap.size < w5.heap.size + 1 + 1 + 1 := by omega
    have X30 := X3.cell 0 _ rfl
    have X31 := X3.cell 1 _ rfl
    have X32 := X3.cell 2 _ rfl
    have X33 := X3.cell 3 _ rfl
    have X4l := X4.lt
    have X4f := X4.free
    have X4l1 : w2.heap.size < w5.heap.size + 1 := by omega
    have X4l2 : w2.heap.size < w5.heap.size + 1 + 1 := by omega
    have X4l3 : w2.heap.size < w5.heap.size + 1 + 1 + 1 := by omega
    have X40 := X4.cell 0 _ rfl
    have X41 := X4.cell 1 _ rfl
    have X42 := X4.cell 2 _ rfl
    have X43 := X4.cell 3 _ rfl
    have X5l := X5.lt
    have X5f := X5.free
    have X5l1 : w3.heap.size < w5.heap.size + 1 := by omega
    have X5l2 : w3.heap.size < w5.heap.size + 1 + 1 := by omega
    have X5l3 : w3.heap.size < w5.heap.size + 1 + 1 + 1 := by omega
    have X50 := X5.cell 0 _ rfl
    have X51 := X5.cell 1 _ rfl
    have X52 := X5.cell 2 _ rfl
    have X53 := X5.cell 3 _ rfl
    have X6l := X6.lt
    have X6f := X6.free
    have X6l1 : w4.heap.size < w5.heap.size + 1 := by omega
    have X6l2 : w4.heap.size < w5.heap.size + 1 + 1 := by omega
    have X6l3 : w4.heap.size < w5.heap.size + 1 + 1 + 1 := by omega
    have X60 := X6.cell 0 _ rfl
    have X61 := X6.cell 1 _ rfl
    have X62 := X6.cell 2 _ rfl
    have X63 := X6.cell 3 _ rfl
    clear M1
    clear M3
    have N3 := M4
    clear M4
    have N4 := M5
    clear M5
    go_upto_region 6 with fail
    refine wp_region_p 39 (fun W' => Kept w.heap.size w W' ∧ w5.heap.size ≤ W'.heap.size ∧ Box W' (w.heap.size) #[.int .u64 (limb 0 A), .int .u64 (limb 1 A), .int .u64 (limb 2 A), .int .u64 (limb 3 A)] ∧ Box W' (w.heap.size + 1) #[.int .u64 (limb 0 B), .int .u64 (limb 1 B), .int .u64 (limb 2 B), .int .u64 (limb 3 B)] ∧ Box W' (w1.heap.size) #[.int .u64 (limb 0 S), .int .u64 (limb 1 S), .int .u64 (limb 2 S), .int .u64 (limb 3 S)] ∧ Box W' (w2.heap.size) #[.int .u64 (limb 0 S), .int .u64 (limb 1 S), .int .u64 (limb 2 S), .int .u64 (limb 3 S)] ∧ Box W' (w3.heap.size) #[.int .u64 (limb 0 D), .int .u64 (limb 1 D), .int .u64 (limb 2 D), .int .u64 (limb 3 D)] ∧ Box W' (w4.heap.size) #[.int .u64 (limb 0 D), .int .u64 (limb 1 D), .int .u64 (limb 2 D), .int .u64 (limb 3 D)] ∧ IsN W' u5_4 (A) ∧ IsN W' u5_5 (B)) (fun W' => Kept w.heap.size w W' ∧ w5.heap.size ≤ W'.heap.size ∧ Box W' (w.heap.size) #[.int .u64 (limb 0 A), .int .u64 (limb 1 A), .int .u64 (limb 2 A), .int .u64 (limb 3 A)] ∧ Box W' (w.heap.size + 1) #[.int .u64 (limb 0 B), .int .u64 (limb 1 B), .int .u64 (limb 2 B), .int .u64 (limb 3 B)] ∧ Box W' (w1.heap.size) #[.int .u64 (limb 0 S), .int .u64 (limb 1 S), .int .u64 (limb 2 S), .int .u64 (limb 3 S)] ∧ Box W' (w2.heap.size) #[.int .u64 (limb 0 S), .int .u64 (limb 1 S), .int .u64 (limb 2 S), .int .u64 (limb 3 S)] ∧ Box W' (w3.heap.size) #[.int .u64 (limb 0 D), .int .u64 (limb 1 D), .int .u64 (limb 2 D), .int .u64 (limb 3 D)] ∧ Box W' (w4.heap.size) #[.int .u64 (limb 0 D), .int .u64 (limb 1 D), .int .u64 (limb 2 D), .int .u64 (limb 3 D)] ∧ IsN W' u5_4 (A) ∧ IsN W' u5_5 (B)) 1000 (w5.heap.size) [.known (wideV S), .known (wideV S), .known (.bool true), .known (.bool true), .known (.bool (c)), .known (.bool (c)), .known (.bool true), .known (.bool true), .known (.bool true), .known (wideV D), .known (wideV D), .known (.bool true), .known (.bool true), .known (.bool true), .known (.bool (b)), .known (.bool (b)), .known (.bool true), .known (.bool true), .known (.bool true), .known (wideV A), .known (wideV B), .known (.int .i64 (q)), .num (A), .num (B), .known (.int .i64 (q)), .known (.bool true), .known (.bool true), .known (.bool true), .known (wideV A), .known (.bool false), .num (A), .known (.int .i64 (lenN A)), .known (.bool false), .known (.bool true), .known (.bool true), .known (.bool true), .known (.bool true), .known (.bool true), .known (.bool true)] (by kernel_rfl) (by kernel_rfl) (fun W W' h hb => ⟨h.1.step hb, Nat.le_trans (h.2.1) hb.size, Box.call hb (h.2.2.1), Box.call hb (h.2.2.2.1), Box.call hb (h.2.2.2.2.1), Box.call hb (h.2.2.2.2.2.1), Box.call hb (h.2.2.2.2.2.2.1), Box.call hb (h.2.2.2.2.2.2.2.1), IsN.call (h.2.2.2.2.2.2.2.2.1) hb, IsN.call (h.2.2.2.2.2.2.2.2.2) hb⟩) (fun W W' h hb => ⟨h.1.step hb, Nat.le_trans (h.2.1) hb.size, Box.call hb (h.2.2.1), Box.call hb (h.2.2.2.1), Box.call hb (h.2.2.2.2.1), Box.call hb (h.2.2.2.2.2.1), Box.call hb (h.2.2.2.2.2.2.1), Box.call hb (h.2.2.2.2.2.2.2.1), IsN.call (h.2.2.2.2.2.2.2.2.1) hb, IsN.call (h.2.2.2.2.2.2.2.2.2) hb⟩) (no_out (of_decide_eq_true (by kernel_rfl))) (.inl (by kernel_rfl)) (.inl (by kernel_rfl)) (fun _ h => h.2.1) (fun _ h => h.2.1) (⟨(by repeat (first | with_reducible exact hk | with_reducible exact Kept.refl _ | with_reducible refine Kept.alloc ?_ _ | with_reducible refine Kept.drew ?_ | with_reducible refine Kept.setCell ?_ (by simp only [World.size_alloc, World.size_setCell, World.size_drew]; omega) _)), (by (try simp only [World.size_alloc, World.size_setCell, World.size_drew]); omega), (by repeat (first | with_reducible assumption | with_reducible apply Box.set10 | with_reducible apply Box.set20 | with_reducible apply Box.set21 | with_reducible apply Box.set40 | with_reducible apply Box.set41 | with_reducible apply Box.set42 | with_reducible apply Box.set43 | with_reducible apply Box.set50 | with_reducible apply Box.set51 | with_reducible apply Box.set52 | with_reducible apply Box.set53 | with_reducible apply Box.set54 | with_reducible apply Box.drew | (with_reducible apply Box.newAt; (try simp only [World.size_alloc, World.size_setCell, World.size_drew]); done) | with_reducible apply Box.alloc | (with_reducible apply Box.other; case hne => ((try simp only [World.size_alloc, World.size_setCell, World.size_drew]); omega)))), (by repeat (first | with_reducible assumption | with_reducible apply Box.set10 | with_reducible apply Box.set20 | with_reducible apply Box.set21 | with_reducible apply Box.set40 | with_reducible apply Box.set41 | with_reducible apply Box.set42 | with_reducible apply Box.set43 | with_reducible apply Box.set50 | with_reducible apply Box.set51 | with_reducible apply Box.set52 | with_reducible apply Box.set53 | with_reducible apply Box.set54 | with_reducible apply Box.drew | (with_reducible apply Box.newAt; (try simp only [World.size_alloc, World.size_setCell, World.size_drew]); done) | with_reducible apply Box.alloc | (with_reducible apply Box.other; case hne => ((try simp only [World.size_alloc, World.size_setCell, World.size_drew]); omega)))), (by repeat (first | with_reducible assumption | with_reducible apply Box.set10 | with_reducible apply Box.set20 | with_reducible apply Box.set21 | with_reducible apply Box.set40 | with_reducible apply Box.set41 | with_reducible apply Box.set42 | with_reducible apply Box.set43 | with_reducible apply Box.set50 | with_reducible apply Box.set51 | with_reducible apply Box.set52 | with_reducible apply Box.set53 | with_reducible apply Box.set54 | with_reducible apply Box.drew | (with_reducible apply Box.newAt; (try simp only [World.size_alloc, World.size_setCell, World.size_drew]); done) | with_reducible apply Box.alloc | (with_reducible apply Box.other; case hne => ((try simp only [World.size_alloc, World.size_setCell, World.size_drew]); omega)))), (by repeat (first | with_reducible assumption | with_reducible apply Box.set10 | with_reducible apply Box.set20 | with_reducible apply Box.set21 | with_reducible apply Box.set40 | with_reducible apply Box.set41 | with_reducible apply Box.set42 | with_reducible apply Box.set43 | with_reducible apply Box.set50 | with_reducible apply Box.set51 | with_reducible apply Box.set52 | with_reducible apply Box.set53 | with_reducible apply Box.set54 | with_reducible apply Box.drew | (with_reducible apply Box.newAt; (try simp only [World.size_alloc, World.size_setCell, World.size_drew]); done) | with_reducible apply Box.alloc | (with_reducible apply Box.other; case hne => ((try simp only [World.size_alloc, World.size_setCell, World.size_drew]); omega)))), (by repeat (first | with_reducible assumption | with_reducible apply Box.set10 | with_reducible apply Box.set20 | with_reducible apply Box.set21 | with_reducible apply Box.set40 | with_reducible apply Box.set41 | with_reducible apply Box.set42 | with_reducible apply Box.set43 | with_reducible apply Box.set50 | with_reducible apply Box.set51 | with_reducible apply Box.set52 | with_reducible apply Box.set53 | with_reducible apply Box.set54 | with_reducible apply Box.drew | (with_reducible apply Box.newAt; (try simp only [World.size_alloc, World.size_setCell, World.size_drew]); done) | with_reducible apply Box.alloc | (with_reducible apply Box.other; case hne => ((try simp only [World.size_alloc, World.size_setCell, World.size_drew]); omega)))), (by repeat (first | with_reducible assumption | with_reducible apply Box.set10 | with_reducible apply Box.set20 | with_reducible apply Box.set21 | with_reducible apply Box.set40 | with_reducible apply Box.set41 | with_reducible apply Box.set42 | with_reducible apply Box.set43 | with_reducible apply Box.set50 | with_reducible apply Box.set51 | with_reducible apply Box.set52 | with_reducible apply Box.set53 | with_reducible apply Box.set54 | with_reducible apply Box.drew | (with_reducible apply Box.newAt; (try simp only [World.size_alloc, World.size_setCell, World.size_drew]); done) | with_reducible apply Box.alloc | (with_reducible apply Box.other; case hne => ((try simp only [World.size_alloc, World.size_setCell, World.size_drew]); omega)))), (IsN.kept N3 (by repeat (first | with_reducible exact Kept.refl _ | with_reducible refine Kept.alloc ?_ _ | with_reducible refine Kept.drew ?_ | with_reducible refine Kept.setCell ?_ (by simp only [World.size_alloc, World.size_setCell, World.size_drew]; omega) _))), (IsN.kept N4 (by repeat (first | with_reducible exact Kept.refl _ | with_reducible refine Kept.alloc ?_ _ | with_reducible refine Kept.drew ?_ | with_reducible refine Kept.setCell ?_ (by simp only [World.size_alloc, World.size_setCell, World.size_drew]; omega) _)))⟩) ?_
    clear hk
    clear X1 X1l1 X1l2 X1l3 X1f X10 X11 X12 X13
    clear X2 X2l1 X2l2 X2l3 X2f X20 X21 X22 X23
    clear X3 X3l1 X3l2 X3l3 X3f X30 X31 X32 X33
    clear X4 X4l1 X4l2 X4l3 X4f X40 X41 X42 X43
    clear X5 X5l1 X5l2 X5l3 X5f X50 X51 X52 X53
    clear X6 X6l1 X6l2 X6l3 X6f X60 X61 X62 X63
    clear N3
    clear N4
    intro ρ
    simp only [List.take_succ_cons, List.take_zero, List.drop_succ_cons, List.drop_zero]
    refine ⟨?_, ?_⟩
    · as_aux_lemma =>
      intro y_ hS_ hO_ hD
      have Q := ((hS_ (by rfl)).2.2.2.2.1).cell
      have q0 := Q 0 _ rfl
      have q1 := Q 1 _ rfl
      have q2 := Q 2 _ rfl
      have q3 := Q 3 _ rfl
      clear Q hS_ hO_ hD
      refine s_gen (V := wideV S) [.pointer (some ⟨w1.heap.size, 0, none⟩)] (by kernel_rfl) (by kernel_rfl) (by kernel_rfl) ?_
      intro r_ hr_
      have o0_ : r_ (.tmp 5) = .pointer (some ⟨w1.heap.size, 0, none⟩) := op_at hr_ 0 (by kernel_rfl) (by kernel_rfl)
      clear hr_
      go_simp; first | done | with_reducible rfl
    simp only [Act.put, planVG, List.setIfInBounds_toArray, List.set_cons_zero, List.set_cons_succ, List.getElem?_cons_zero, List.getElem?_cons_succ]
    refine ⟨?_, ?_⟩
    · as_aux_lemma =>
      intro y_ hS_ hO_ hD
      have Q := ((hS_ (by rfl)).2.2.2.2.2.1).cell
      have q0 := Q 0 _ rfl
      have q1 := Q 1 _ rfl
      have q2 := Q 2 _ rfl
      have q3 := Q 3 _ rfl
      clear Q hS_ hO_ hD
      refine s_gen (V := wideV S) [.pointer (some ⟨w2.heap.size, 0, none⟩)] (by kernel_rfl) (by kernel_rfl) (by kernel_rfl) ?_
      intro r_ hr_
      have o0_ : r_ (.tmp 7) = .pointer (some ⟨w2.heap.size, 0, none⟩) := op_at hr_ 0 (by kernel_rfl) (by kernel_rfl)
      clear hr_
      go_simp; first | done | with_reducible rfl
    simp only [Act.put, planVG, List.setIfInBounds_toArray, List.set_cons_zero, List.set_cons_succ, List.getElem?_cons_zero, List.getElem?_cons_succ]
    refine ⟨?_, ?_⟩
    · as_aux_lemma =>
      intro y_ hS_ hO_ hD
      clear hS_ hO_ hD
      refine s_gen (V := .bool true) [wideV S, wideV S] (by kernel_rfl) (by kernel_rfl) (by kernel_rfl) ?_
      intro r_ hr_
      have o0_ : r_ (.tmp 43) = wideV S := op_at hr_ 0 (by kernel_rfl) (by kernel_rfl)
      have o1_ : r_ (.tmp 44) = wideV S := op_at hr_ 1 (by kernel_rfl) (by kernel_rfl)
      clear hr_
      go_simp; first | done | with_reducible rfl | omega
    simp only [Act.put, planVG, List.setIfInBounds_toArray, List.set_cons_zero, List.set_cons_succ, List.getElem?_cons_zero, List.getElem?_cons_succ]
    refine ⟨?_, ?_⟩
    · as_aux_lemma =>
      intro y_ hS_ hO_ hD
      clear hS_ hO_ hD
      refine s_gen (V := .bool true) [.bool true] (by kernel_rfl) (by kernel_rfl) (by kernel_rfl) ?_
      intro r_ hr_
      have o0_ : r_ (.tmp 45) = .bool true := op_at hr_ 0 (by kernel_rfl) (by kernel_rfl)
      clear hr_
      go_simp; first | done | with_reducible rfl | omega
    simp only [Act.put, planVG, List.setIfInBounds_toArray, List.set_cons_zero, List.set_cons_succ, List.getElem?_cons_zero, List.getElem?_cons_succ]
    refine ⟨?_, ?_⟩
    · as_aux_lemma =>
      intro y_ hS_ hO_ hD
      clear hS_ hO_ hD
      refine s_gen (V := .bool (c)) [.bool (c)] (by kernel_rfl) (by kernel_rfl) (by kernel_rfl) ?_
      intro r_ hr_
      have o0_ : r_ (.tmp 6) = .bool (c) := op_at hr_ 0 (by kernel_rfl) (by kernel_rfl)
      clear hr_
      go_simp; first | done | with_reducible rfl | omega
    simp only [Act.put, planVG, List.setIfInBounds_toArray, List.set_cons_zero, List.set_cons_succ, List.getElem?_cons_zero, List.getElem?_cons_succ]
    refine ⟨?_, ?_⟩
    · as_aux_lemma =>
      intro y_ hS_ hO_ hD
      clear hS_ hO_ hD
      refine s_gen (V := .bool (c)) [.bool (c)] (by kernel_rfl) (by kernel_rfl) (by kernel_rfl) ?_
      intro r_ hr_
      have o0_ : r_ (.tmp 8) = .bool (c) := op_at hr_ 0 (by kernel_rfl) (by kernel_rfl)
      clear hr_
      go_simp; first | done | with_reducible rfl | omega
    simp only [Act.put, planVG, List.setIfInBounds_toArray, List.set_cons_zero, List.set_cons_succ, List.getElem?_cons_zero, List.getElem?_cons_succ]
    refine ⟨?_, ?_⟩
    · as_aux_lemma =>
      intro y_ hS_ hO_ hD
      clear hS_ hO_ hD
      refine s_gen (V := .bool true) [.bool (c), .bool (c)] (by kernel_rfl) (by kernel_rfl) (by kernel_rfl) ?_
      intro r_ hr_
      have o0_ : r_ (.tmp 47) = .bool (c) := op_at hr_ 0 (by kernel_rfl) (by kernel_rfl)
      have o1_ : r_ (.tmp 48) = .bool (c) := op_at hr_ 1 (by kernel_rfl) (by kernel_rfl)
      clear hr_
      go_simp; first | done | with_reducible rfl | omega
    simp only [Act.put, planVG, List.setIfInBounds_toArray, List.set_cons_zero, List.set_cons_succ, List.getElem?_cons_zero, List.getElem?_cons_succ]
    refine ⟨?_, ?_⟩
    · as_aux_lemma =>
      intro y_ hS_ hO_ hD
      clear hS_ hO_ hD
      refine s_gen (V := .bool true) [.bool true, .bool true, .bool false] (by kernel_rfl) (by kernel_rfl) (by kernel_rfl) ?_
      intro r_ hr_
      have o0_ : r_ (.tmp 46) = .bool true := op_at hr_ 0 (by kernel_rfl) (by kernel_rfl)
      have o1_ : r_ (.tmp 49) = .bool true := op_at hr_ 1 (by kernel_rfl) (by kernel_rfl)
      have o2_ : r_ (.const (.bool false)) = .bool false := op_at hr_ 2 (by kernel_rfl) (by kernel_rfl)
      clear hr_
      go_simp; first | done | with_reducible rfl | omega
    simp only [Act.put, planVG, List.setIfInBounds_toArray, List.set_cons_zero, List.set_cons_succ, List.getElem?_cons_zero, List.getElem?_cons_succ]
    refine ⟨?_, ?_⟩
    · as_aux_lemma =>
      intro y_ hS_ hO_ hD
      clear hS_ hO_ hD
      refine s_gen (V := .bool true) [.bool true] (by kernel_rfl) (by kernel_rfl) (by kernel_rfl) ?_
      intro r_ hr_
      have o0_ : r_ (.tmp 50) = .bool true := op_at hr_ 0 (by kernel_rfl) (by kernel_rfl)
      clear hr_
      go_simp; first | done | with_reducible rfl | omega
    simp only [Act.put, planVG, List.setIfInBounds_toArray, List.set_cons_zero, List.set_cons_succ, List.getElem?_cons_zero, List.getElem?_cons_succ]
    refine ⟨?_, ?_⟩
    · as_aux_lemma =>
      intro y_ hS_ hO_ hD
      have Q := ((hS_ (by rfl)).2.2.2.2.2.2.1).cell
      have q0 := Q 0 _ rfl
      have q1 := Q 1 _ rfl
      have q2 := Q 2 _ rfl
      have q3 := Q 3 _ rfl
      clear Q hS_ hO_ hD
      refine s_gen (V := wideV D) [.pointer (some ⟨w3.heap.size, 0, none⟩)] (by kernel_rfl) (by kernel_rfl) (by kernel_rfl) ?_
      intro r_ hr_
      have o0_ : r_ (.tmp 9) = .pointer (some ⟨w3.heap.size, 0, none⟩) := op_at hr_ 0 (by kernel_rfl) (by kernel_rfl)
      clear hr_
      go_simp; first | done | with_reducible rfl
    simp only [Act.put, planVG, List.setIfInBounds_toArray, List.set_cons_zero, List.set_cons_succ, List.getElem?_cons_zero, List.getElem?_cons_succ]
    refine ⟨?_, ?_⟩
    · as_aux_lemma =>
      intro y_ hS_ hO_ hD
      have Q := ((hS_ (by rfl)).2.2.2.2.2.2.2.1).cell
      have q0 := Q 0 _ rfl
      have q1 := Q 1 _ rfl
      have q2 := Q 2 _ rfl
      have q3 := Q 3 _ rfl
      clear Q hS_ hO_ hD
      refine s_gen (V := wideV D) [.pointer (some ⟨w4.heap.size, 0, none⟩)] (by kernel_rfl) (by kernel_rfl) (by kernel_rfl) ?_
      intro r_ hr_
      have o0_ : r_ (.tmp 11) = .pointer (some ⟨w4.heap.size, 0, none⟩) := op_at hr_ 0 (by kernel_rfl) (by kernel_rfl)
      clear hr_
      go_simp; first | done | with_reducible rfl
    simp only [Act.put, planVG, List.setIfInBounds_toArray, List.set_cons_zero, List.set_cons_succ, List.getElem?_cons_zero, List.getElem?_cons_succ]
    refine ⟨?_, ?_⟩
    · as_aux_lemma =>
      intro y_ hS_ hO_ hD
      clear hS_ hO_ hD
      refine s_gen (V := .bool true) [wideV D, wideV D] (by kernel_rfl) (by kernel_rfl) (by kernel_rfl) ?_
      intro r_ hr_
      have o0_ : r_ (.tmp 52) = wideV D := op_at hr_ 0 (by kernel_rfl) (by kernel_rfl)
      have o1_ : r_ (.tmp 53) = wideV D := op_at hr_ 1 (by kernel_rfl) (by kernel_rfl)
      clear hr_
      go_simp; first | done | with_reducible rfl | omega
    simp only [Act.put, planVG, List.setIfInBounds_toArray, List.set_cons_zero, List.set_cons_succ, List.getElem?_cons_zero, List.getElem?_cons_succ]
    refine ⟨?_, ?_⟩
    · as_aux_lemma =>
      intro y_ hS_ hO_ hD
      clear hS_ hO_ hD
      refine s_gen (V := .bool true) [.bool true, .bool true, .bool false] (by kernel_rfl) (by kernel_rfl) (by kernel_rfl) ?_
      intro r_ hr_
      have o0_ : r_ (.tmp 51) = .bool true := op_at hr_ 0 (by kernel_rfl) (by kernel_rfl)
      have o1_ : r_ (.tmp 54) = .bool true := op_at hr_ 1 (by kernel_rfl) (by kernel_rfl)
      have o2_ : r_ (.const (.bool false)) = .bool false := op_at hr_ 2 (by kernel_rfl) (by kernel_rfl)
      clear hr_
      go_simp; first | done | with_reducible rfl | omega
    simp only [Act.put, planVG, List.setIfInBounds_toArray, List.set_cons_zero, List.set_cons_succ, List.getElem?_cons_zero, List.getElem?_cons_succ]
    refine ⟨?_, ?_⟩
    · as_aux_lemma =>
      intro y_ hS_ hO_ hD
      clear hS_ hO_ hD
      refine s_gen (V := .bool true) [.bool true] (by kernel_rfl) (by kernel_rfl) (by kernel_rfl) ?_
      intro r_ hr_
      have o0_ : r_ (.tmp 55) = .bool true := op_at hr_ 0 (by kernel_rfl) (by kernel_rfl)
      clear hr_
      go_simp; first | done | with_reducible rfl | omega
    simp only [Act.put, planVG, List.setIfInBounds_toArray, List.set_cons_zero, List.set_cons_succ, List.getElem?_cons_zero, List.getElem?_cons_succ]
    refine ⟨?_, ?_⟩
    · as_aux_lemma =>
      intro y_ hS_ hO_ hD
      clear hS_ hO_ hD
      refine s_gen (V := .bool (b)) [.bool (b)] (by kernel_rfl) (by kernel_rfl) (by kernel_rfl) ?_
      intro r_ hr_
      have o0_ : r_ (.tmp 10) = .bool (b) := op_at hr_ 0 (by kernel_rfl) (by kernel_rfl)
      clear hr_
      go_simp; first | done | with_reducible rfl | omega
    simp only [Act.put, planVG, List.setIfInBounds_toArray, List.set_cons_zero, List.set_cons_succ, List.getElem?_cons_zero, List.getElem?_cons_succ]
    refine ⟨?_, ?_⟩
    · as_aux_lemma =>
      intro y_ hS_ hO_ hD
      clear hS_ hO_ hD
      refine s_gen (V := .bool (b)) [.bool (b)] (by kernel_rfl) (by kernel_rfl) (by kernel_rfl) ?_
      intro r_ hr_
      have o0_ : r_ (.tmp 12) = .bool (b) := op_at hr_ 0 (by kernel_rfl) (by kernel_rfl)
      clear hr_
      go_simp; first | done | with_reducible rfl | omega
    simp only [Act.put, planVG, List.setIfInBounds_toArray, List.set_cons_zero, List.set_cons_succ, List.getElem?_cons_zero, List.getElem?_cons_succ]
    refine ⟨?_, ?_⟩
    · as_aux_lemma =>
      intro y_ hS_ hO_ hD
      clear hS_ hO_ hD
      refine s_gen (V := .bool true) [.bool (b), .bool (b)] (by kernel_rfl) (by kernel_rfl) (by kernel_rfl) ?_
      intro r_ hr_
      have o0_ : r_ (.tmp 57) = .bool (b) := op_at hr_ 0 (by kernel_rfl) (by kernel_rfl)
      have o1_ : r_ (.tmp 58) = .bool (b) := op_at hr_ 1 (by kernel_rfl) (by kernel_rfl)
      clear hr_
      go_simp; first | done | with_reducible rfl | omega
    simp only [Act.put, planVG, List.setIfInBounds_toArray, List.set_cons_zero, List.set_cons_succ, List.getElem?_cons_zero, List.getElem?_cons_succ]
    refine ⟨?_, ?_⟩
    · as_aux_lemma =>
      intro y_ hS_ hO_ hD
      clear hS_ hO_ hD
      refine s_gen (V := .bool true) [.bool true, .bool true, .bool false] (by kernel_rfl) (by kernel_rfl) (by kernel_rfl) ?_
      intro r_ hr_
      have o0_ : r_ (.tmp 56) = .bool true := op_at hr_ 0 (by kernel_rfl) (by kernel_rfl)
      have o1_ : r_ (.tmp 59) = .bool true := op_at hr_ 1 (by kernel_rfl) (by kernel_rfl)
      have o2_ : r_ (.const (.bool false)) = .bool false := op_at hr_ 2 (by kernel_rfl) (by kernel_rfl)
      clear hr_
      go_simp; first | done | with_reducible rfl | omega
    simp only [Act.put, planVG, List.setIfInBounds_toArray, List.set_cons_zero, List.set_cons_succ, List.getElem?_cons_zero, List.getElem?_cons_succ]
    refine ⟨?_, ?_⟩
    · as_aux_lemma =>
      intro y_ hS_ hO_ hD
      clear hS_ hO_ hD
      refine s_gen (V := .bool true) [.bool true] (by kernel_rfl) (by kernel_rfl) (by kernel_rfl) ?_
      intro r_ hr_
      have o0_ : r_ (.tmp 60) = .bool true := op_at hr_ 0 (by kernel_rfl) (by kernel_rfl)
      clear hr_
      go_simp; first | done | with_reducible rfl | omega
    simp only [Act.put, planVG, List.setIfInBounds_toArray, List.set_cons_zero, List.set_cons_succ, List.getElem?_cons_zero, List.getElem?_cons_succ]
    refine ⟨?_, ?_⟩
    · as_aux_lemma =>
      intro y_ hS_ hO_ hD
      have Q := ((hS_ (by rfl)).2.2.1).cell
      have q0 := Q 0 _ rfl
      have q1 := Q 1 _ rfl
      have q2 := Q 2 _ rfl
      have q3 := Q 3 _ rfl
      clear Q hS_ hO_ hD
      refine s_gen (V := wideV A) [.pointer (some ⟨w.heap.size, 0, none⟩)] (by kernel_rfl) (by kernel_rfl) (by kernel_rfl) ?_
      intro r_ hr_
      have o0_ : r_ (.tmp 2) = .pointer (some ⟨w.heap.size, 0, none⟩) := op_at hr_ 0 (by kernel_rfl) (by kernel_rfl)
      clear hr_
      go_simp; first | done | with_reducible rfl
    simp only [Act.put, planVG, List.setIfInBounds_toArray, List.set_cons_zero, List.set_cons_succ, List.getElem?_cons_zero, List.getElem?_cons_succ]
    refine ⟨?_, ?_⟩
    · as_aux_lemma =>
      intro y_ hS_ hO_ hD
      have Q := ((hS_ (by rfl)).2.2.2.1).cell
      have q0 := Q 0 _ rfl
      have q1 := Q 1 _ rfl
      have q2 := Q 2 _ rfl
      have q3 := Q 3 _ rfl
      clear Q hS_ hO_ hD
      refine s_gen (V := wideV B) [.pointer (some ⟨w.heap.size + 1, 0, none⟩)] (by kernel_rfl) (by kernel_rfl) (by kernel_rfl) ?_
      intro r_ hr_
      have o0_ : r_ (.tmp 3) = .pointer (some ⟨w.heap.size + 1, 0, none⟩) := op_at hr_ 0 (by kernel_rfl) (by kernel_rfl)
      clear hr_
      go_simp; first | done | with_reducible rfl
    simp only [Act.put, planVG, List.setIfInBounds_toArray, List.set_cons_zero, List.set_cons_succ, List.getElem?_cons_zero, List.getElem?_cons_succ]
    refine ⟨?_, ?_⟩
    · as_aux_lemma =>
      intro y_ hS_ hO_ hD
      try clear hS
      clear hS_ hO_ hD
      refine s_gcall (V := .int .i64 (q)) [.func (.func 44) #[] #[], wideV A, wideV B] ?_ ?_ (by kernel_rfl) (by kernel_rfl) (by kernel_rfl) ?_ ?_
      rotate_left 2
      · intro r_ hr_
        have o0_ : r_ (.func 44) = .func (.func 44) #[] #[] := op_at hr_ 0 (by kernel_rfl) (by kernel_rfl)
        have o1_ : r_ (.tmp 62) = wideV A := op_at hr_ 1 (by kernel_rfl) (by kernel_rfl)
        have o2_ : r_ (.tmp 63) = wideV B := op_at hr_ 2 (by kernel_rfl) (by kernel_rfl)
        clear hr_
        go_simp; first | done | with_reducible rfl | (constructor <;> with_reducible rfl)
      · refine calls_to (V := .int .i64 (q)) (CmpW_at (IsWide.of hA) (IsWide.of hB) _) (by rw [HQ.out])
    simp only [Act.put, planVG, List.setIfInBounds_toArray, List.set_cons_zero, List.set_cons_succ, List.getElem?_cons_zero, List.getElem?_cons_succ]
    refine ⟨?_, ?_⟩
    · as_aux_lemma =>
      intro y_ hS_ hO_ hD
      have hS := hS_ (by rfl)
      have n_ : IsN y_ (u5_4) (A) := hS.2.2.2.2.2.2.2.2.1
      clear hS hS_ hO_ hD
      exact s_num (by rfl) (by rfl) (by rfl) n_
    simp only [Act.put, planVG, List.setIfInBounds_toArray, List.set_cons_zero, List.set_cons_succ, List.getElem?_cons_zero, List.getElem?_cons_succ]
    refine ⟨?_, ?_⟩
    · as_aux_lemma =>
      intro y_ hS_ hO_ hD
      have hS := hS_ (by rfl)
      have n_ : IsN y_ (u5_5) (B) := hS.2.2.2.2.2.2.2.2.2
      clear hS hS_ hO_ hD
      exact s_num (by rfl) (by rfl) (by rfl) n_
    simp only [Act.put, planVG, List.setIfInBounds_toArray, List.set_cons_zero, List.set_cons_succ, List.getElem?_cons_zero, List.getElem?_cons_succ]
    refine ⟨?_, ?_⟩
    · as_aux_lemma =>
      intro y_ hS_ hO_ hD
      have n_22 : IsN y_ (ρ 22) (A) := hD 22 (by decide) (by rfl)
      have n_23 : IsN y_ (ρ 23) (B) := hD 23 (by decide) (by rfl)
      try clear hS
      clear hS_ hO_ hD
      refine s_gcall (V := .int .i64 (q)) [.func (.func 30) #[] #[], ρ 22, ρ 23] ?_ ?_ (by kernel_rfl) (by kernel_rfl) (by kernel_rfl) ?_ ?_
      rotate_left 2
      · intro r_ hr_
        have o0_ : r_ (.func 30) = .func (.func 30) #[] #[] := op_at hr_ 0 (by kernel_rfl) (by kernel_rfl)
        have o1_ : r_ (.tmp 65) = ρ 22 := op_at hr_ 1 (by kernel_rfl) (by kernel_rfl)
        have o2_ : r_ (.tmp 66) = ρ 23 := op_at hr_ 2 (by kernel_rfl) (by kernel_rfl)
        clear hr_
        go_simp; first | done | with_reducible rfl | (constructor <;> with_reducible rfl)
      · refine calls_to (V := .int .i64 (q)) (refCmp_any _ n_22 n_23 (by omega) (by omega)) (by rw [HQ.out])
    simp only [Act.put, planVG, List.setIfInBounds_toArray, List.set_cons_zero, List.set_cons_succ, List.getElem?_cons_zero, List.getElem?_cons_succ]
    refine ⟨?_, ?_⟩
    · as_aux_lemma =>
      intro y_ hS_ hO_ hD
      clear hS_ hO_ hD
      refine s_gen (V := .bool true) [.int .i64 (q), .int .i64 (q)] (by kernel_rfl) (by kernel_rfl) (by kernel_rfl) ?_
      intro r_ hr_
      have o0_ : r_ (.tmp 64) = .int .i64 (q) := op_at hr_ 0 (by kernel_rfl) (by kernel_rfl)
      have o1_ : r_ (.tmp 67) = .int .i64 (q) := op_at hr_ 1 (by kernel_rfl) (by kernel_rfl)
      clear hr_
      go_simp; first | done | with_reducible rfl | omega
    simp only [Act.put, planVG, List.setIfInBounds_toArray, List.set_cons_zero, List.set_cons_succ, List.getElem?_cons_zero, List.getElem?_cons_succ]
    refine ⟨?_, ?_⟩
    · as_aux_lemma =>
      intro y_ hS_ hO_ hD
      clear hS_ hO_ hD
      refine s_gen (V := .bool true) [.bool true, .bool true, .bool false] (by kernel_rfl) (by kernel_rfl) (by kernel_rfl) ?_
      intro r_ hr_
      have o0_ : r_ (.tmp 61) = .bool true := op_at hr_ 0 (by kernel_rfl) (by kernel_rfl)
      have o1_ : r_ (.tmp 68) = .bool true := op_at hr_ 1 (by kernel_rfl) (by kernel_rfl)
      have o2_ : r_ (.const (.bool false)) = .bool false := op_at hr_ 2 (by kernel_rfl) (by kernel_rfl)
      clear hr_
      go_simp; first | done | with_reducible rfl | omega
    simp only [Act.put, planVG, List.setIfInBounds_toArray, List.set_cons_zero, List.set_cons_succ, List.getElem?_cons_zero, List.getElem?_cons_succ]
    refine ⟨?_, ?_⟩
    · as_aux_lemma =>
      intro y_ hS_ hO_ hD
      clear hS_ hO_ hD
      refine s_gen (V := .bool true) [.bool true] (by kernel_rfl) (by kernel_rfl) (by kernel_rfl) ?_
      intro r_ hr_
      have o0_ : r_ (.tmp 69) = .bool true := op_at hr_ 0 (by kernel_rfl) (by kernel_rfl)
      clear hr_
      go_simp; first | done | with_reducible rfl | omega
    simp only [Act.put, planVG, List.setIfInBounds_toArray, List.set_cons_zero, List.set_cons_succ, List.getElem?_cons_zero, List.getElem?_cons_succ]
    refine ⟨?_, ?_⟩
    · as_aux_lemma =>
      intro y_ hS_ hO_ hD
      have Q := ((hS_ (by rfl)).2.2.1).cell
      have q0 := Q 0 _ rfl
      have q1 := Q 1 _ rfl
      have q2 := Q 2 _ rfl
      have q3 := Q 3 _ rfl
      clear Q hS_ hO_ hD
      refine s_gen (V := wideV A) [.pointer (some ⟨w.heap.size, 0, none⟩)] (by kernel_rfl) (by kernel_rfl) (by kernel_rfl) ?_
      intro r_ hr_
      have o0_ : r_ (.tmp 2) = .pointer (some ⟨w.heap.size, 0, none⟩) := op_at hr_ 0 (by kernel_rfl) (by kernel_rfl)
      clear hr_
      go_simp; first | done | with_reducible rfl
    simp only [Act.put, planVG, List.setIfInBounds_toArray, List.set_cons_zero, List.set_cons_succ, List.getElem?_cons_zero, List.getElem?_cons_succ]
    refine ⟨?_, ?_⟩
    · as_aux_lemma =>
      intro y_ hS_ hO_ hD
      try clear hS
      clear hS_ hO_ hD
      refine s_gcall (V := .bool false) [.func (.func 45) #[] #[], wideV A] ?_ ?_ (by kernel_rfl) (by kernel_rfl) (by kernel_rfl) ?_ ?_
      rotate_left 2
      · intro r_ hr_
        have o0_ : r_ (.func 45) = .func (.func 45) #[] #[] := op_at hr_ 0 (by kernel_rfl) (by kernel_rfl)
        have o1_ : r_ (.tmp 71) = wideV A := op_at hr_ 1 (by kernel_rfl) (by kernel_rfl)
        clear hr_
        go_simp; first | done | with_reducible rfl | (constructor <;> with_reducible rfl)
      · refine calls_to (V := .bool false) (ZeroW_at (IsWide.of hA) _) (by rw [HZ.out])
    simp only [Act.put, planVG, List.setIfInBounds_toArray, List.set_cons_zero, List.set_cons_succ, List.getElem?_cons_zero, List.getElem?_cons_succ]
    refine ⟨?_, ?_⟩
    · as_aux_lemma =>
      intro y_ hS_ hO_ hD
      have hS := hS_ (by rfl)
      have n_ : IsN y_ (u5_4) (A) := hS.2.2.2.2.2.2.2.2.1
      clear hS hS_ hO_ hD
      exact s_num (by rfl) (by rfl) (by rfl) n_
    simp only [Act.put, planVG, List.setIfInBounds_toArray, List.set_cons_zero, List.set_cons_succ, List.getElem?_cons_zero, List.getElem?_cons_succ]
    refine ⟨?_, ?_⟩
    · as_aux_lemma =>
      intro y_ hS_ hO_ hD
      have hS := hS_ (by rfl)
      have n_ : IsN y_ (ρ 30) (A) := hD 30 (by decide) (by rfl)
      clear hS hS_ hO_ hD
      obtain ⟨ad_, c_, e_, _, _⟩ := n_.open
      clear n_
      refine s_val (by rfl) (by rfl) ?_
      simp only [e_]
      go_simp; first | done | with_reducible rfl | rfl
    simp only [Act.put, planVG, List.setIfInBounds_toArray, List.set_cons_zero, List.set_cons_succ, List.getElem?_cons_zero, List.getElem?_cons_succ]
    refine ⟨?_, ?_⟩
    · as_aux_lemma =>
      intro y_ hS_ hO_ hD
      clear hS_ hO_ hD
      refine s_gen (V := .bool false) [.int .i64 (lenN A), .int .i64 0] (by kernel_rfl) (by kernel_rfl) (by kernel_rfl) ?_
      intro r_ hr_
      have o0_ : r_ (.tmp 74) = .int .i64 (lenN A) := op_at hr_ 0 (by kernel_rfl) (by kernel_rfl)
      have o1_ : r_ (.const (.int .i64 0)) = .int .i64 0 := op_at hr_ 1 (by kernel_rfl) (by kernel_rfl)
      clear hr_
      go_simp; first | done | with_reducible rfl | omega
    simp only [Act.put, planVG, List.setIfInBounds_toArray, List.set_cons_zero, List.set_cons_succ, List.getElem?_cons_zero, List.getElem?_cons_succ]
    refine ⟨?_, ?_⟩
    · as_aux_lemma =>
      intro y_ hS_ hO_ hD
      clear hS_ hO_ hD
      refine s_gen (V := .bool true) [.bool false, .bool false] (by kernel_rfl) (by kernel_rfl) (by kernel_rfl) ?_
      intro r_ hr_
      have o0_ : r_ (.tmp 72) = .bool false := op_at hr_ 0 (by kernel_rfl) (by kernel_rfl)
      have o1_ : r_ (.tmp 75) = .bool false := op_at hr_ 1 (by kernel_rfl) (by kernel_rfl)
      clear hr_
      go_simp; first | done | with_reducible rfl | omega
    simp only [Act.put, planVG, List.setIfInBounds_toArray, List.set_cons_zero, List.set_cons_succ, List.getElem?_cons_zero, List.getElem?_cons_succ]
    refine ⟨?_, ?_⟩
    · as_aux_lemma =>
      intro y_ hS_ hO_ hD
      clear hS_ hO_ hD
      refine s_gen (V := .bool true) [.bool true, .bool true, .bool false] (by kernel_rfl) (by kernel_rfl) (by kernel_rfl) ?_
      intro r_ hr_
      have o0_ : r_ (.tmp 70) = .bool true := op_at hr_ 0 (by kernel_rfl) (by kernel_rfl)
      have o1_ : r_ (.tmp 76) = .bool true := op_at hr_ 1 (by kernel_rfl) (by kernel_rfl)
      have o2_ : r_ (.const (.bool false)) = .bool false := op_at hr_ 2 (by kernel_rfl) (by kernel_rfl)
      clear hr_
      go_simp; first | done | with_reducible rfl | omega
    simp only [Act.put, planVG, List.setIfInBounds_toArray, List.set_cons_zero, List.set_cons_succ, List.getElem?_cons_zero, List.getElem?_cons_succ]
    refine ⟨?_, ?_⟩
    · as_aux_lemma =>
      intro y_ hS_ hO_ hD
      clear hS_ hO_ hD
      refine s_gen (V := .bool true) [.bool true] (by kernel_rfl) (by kernel_rfl) (by kernel_rfl) ?_
      intro r_ hr_
      have o0_ : r_ (.tmp 77) = .bool true := op_at hr_ 0 (by kernel_rfl) (by kernel_rfl)
      clear hr_
      go_simp; first | done | with_reducible rfl | omega
    simp only [Act.put, planVG, List.setIfInBounds_toArray, List.set_cons_zero, List.set_cons_succ, List.getElem?_cons_zero, List.getElem?_cons_succ]
    refine ⟨?_, ?_⟩
    · as_aux_lemma =>
      intro y_ hS_ hO_ hD
      try clear hS
      clear hS_ hO_ hD
      refine s_gcall (V := .bool true) [.func (.func 26) #[] #[]] ?_ ?_ (by kernel_rfl) (by kernel_rfl) (by kernel_rfl) ?_ ?_
      rotate_left 2
      · intro r_ hr_
        have o0_ : r_ (.func 26) = .func (.func 26) #[] #[] := op_at hr_ 0 (by kernel_rfl) (by kernel_rfl)
        clear hr_
        go_simp; first | done | with_reducible rfl | (constructor <;> with_reducible rfl)
      · refine counts02_any _
    simp only [Act.put, planVG, List.setIfInBounds_toArray, List.set_cons_zero, List.set_cons_succ, List.getElem?_cons_zero, List.getElem?_cons_succ]
    refine ⟨?_, ?_⟩
    · as_aux_lemma =>
      intro y_ hS_ hO_ hD
      clear hS_ hO_ hD
      refine s_gen (V := .bool true) [.bool true, .bool true, .bool false] (by kernel_rfl) (by kernel_rfl) (by kernel_rfl) ?_
      intro r_ hr_
      have o0_ : r_ (.tmp 78) = .bool true := op_at hr_ 0 (by kernel_rfl) (by kernel_rfl)
      have o1_ : r_ (.tmp 79) = .bool true := op_at hr_ 1 (by kernel_rfl) (by kernel_rfl)
      have o2_ : r_ (.const (.bool false)) = .bool false := op_at hr_ 2 (by kernel_rfl) (by kernel_rfl)
      clear hr_
      go_simp; first | done | with_reducible rfl | omega
    simp only [Act.put, planVG, List.setIfInBounds_toArray, List.set_cons_zero, List.set_cons_succ, List.getElem?_cons_zero, List.getElem?_cons_succ]
    refine ⟨?_, ?_⟩
    · as_aux_lemma =>
      intro y_ hS_ hO_ hD
      clear hS_ hO_ hD
      refine s_gen (V := .bool true) [.bool true] (by kernel_rfl) (by kernel_rfl) (by kernel_rfl) ?_
      intro r_ hr_
      have o0_ : r_ (.tmp 80) = .bool true := op_at hr_ 0 (by kernel_rfl) (by kernel_rfl)
      clear hr_
      go_simp; first | done | with_reducible rfl | omega
    simp only [Act.put, planVG, List.setIfInBounds_toArray, List.set_cons_zero, List.set_cons_succ, List.getElem?_cons_zero, List.getElem?_cons_succ]
    as_aux_lemma =>
      intro w6 hS hF hD_
      change wpList _ _ _ _ _ _
      replace hS := sg_no (by decide) hS
      obtain ⟨hk, hZ6, X1, X2, X3, X4, X5, X6, N3, N4⟩ := hS
      have M22 : IsN w6 (ρ 22) (A) := hF 22 (by decide)
      have M23 : IsN w6 (ρ 23) (B) := hF 23 (by decide)
      have M30 : IsN w6 (ρ 30) (A) := hF 30 (by decide)
      clear hF hD_
      generalize ρ 22 = u6_22 at *
      generalize ρ 23 = u6_23 at *
      generalize ρ 30 = u6_30 at *
      clear ρ
      have hz_w6 := hk.size
      have X1l := X1.lt
      have X1f := X1.free
      have X1l1 : w.heap.size < w6.heap.size + 1 := by omega
      have X1l2 : w.heap.size < w6.heap.size + 1 + 1 := by omega
      have X1l3 : w.heap.size < w6.heap.size + 1 + 1 + 1 := by omega
      have X10 := X1.cell 0 _ rfl
      have X11 := X1.cell 1 _ rfl
      have X12 := X1.cell 2 _ rfl
      have X13 := X1.cell 3 _ rfl
      have X2l := X2.lt
      have X2f := X2.free
      have X2l1 : w.heap.size + 1 < w6.heap.size + 1 := by omega
      have X2l2 : w.heap.size + 1 < w6.heap.size + 1 + 1 := by omega
      have X2l3 : w.heap.size + 1 < w6.heap.size + 1 + 1 + 1 := by omega
      have X20 := X2.cell 0 _ rfl
      have X21 := X2.cell 1 _ rfl
      have X22 := X2.cell 2 _ rfl
      have X23 := X2.cell 3 _ rfl
      have X3l := X3.lt
      have X3f := X3.free
      have X3l1 : w1.heap.size < w6.heap.size + 1 := by omega
      have X3l2 : w1.heap.size < w6.heap.size + 1 + 1 := by omega
      have X3l3 : w1.heap.size < w6.heap.size + 1 + 1 + 1 := by omega
      have X30 := X3.cell 0 _ rfl
      have X31 := X3.cell 1 _ rfl
      have X32 := X3.cell 2 _ rfl
      have X33 := X3.cell 3 _ rfl
      have X4l := X4.lt
      have X4f := X4.free
      have X4l1 : w2.heap.size < w6.heap.size + 1 := by omega
      have X4l2 : w2.heap.size < w6.heap.size + 1 + 1 := by omega
      have X4l3 : w2.heap.size < w6.heap.size + 1 + 1 + 1 := by omega
      have X40 := X4.cell 0 _ rfl
      have X41 := X4.cell 1 _ rfl
      have X42 := X4.cell 2 _ rfl
      have X43 := X4.cell 3 _ rfl
      have X5l := X5.lt
      have X5f := X5.free
      have X5l1 : w3.heap.size < w6.heap.size + 1 := by omega
      have X5l2 : w3.heap.size < w6.heap.size + 1 + 1 := by omega
      have X5l3 : w3.heap.size < w6.heap.size + 1 + 1 + 1 := by omega
      have X50 := X5.cell 0 _ rfl
      have X51 := X5.cell 1 _ rfl
      have X52 := X5.cell 2 _ rfl
      have X53 := X5.cell 3 _ rfl
      have X6l := X6.lt
      have X6f := X6.free
      have X6l1 : w4.heap.size < w6.heap.size + 1 := by omega
      have X6l2 : w4.heap.size < w6.heap.size + 1 + 1 := by omega
      have X6l3 : w4.heap.size < w6.heap.size + 1 + 1 + 1 := by omega
      have X60 := X6.cell 0 _ rfl
      have X61 := X6.cell 1 _ rfl
      have X62 := X6.cell 2 _ rfl
      have X63 := X6.cell 3 _ rfl
      clear M22
      clear M23
      clear M30
      go_wp2
      go_ret
      exact ⟨rfl, (by refine Kept.below ?_; repeat (first | with_reducible exact hk | with_reducible exact Kept.refl _ | with_reducible refine Kept.alloc ?_ _ | with_reducible refine Kept.drew ?_ | with_reducible refine Kept.setCell ?_ (by simp only [World.size_alloc, World.size_setCell, World.size_drew]; omega) _))⟩

theorem WideSums_walk {A B : Nat} (hA : W256 A) (hB : W256 B) (w : World) :
    Calls Try.prog 6 #[wideV A, wideV B] w fun e w' => e = .returned (.bool true) ∧ Below w.heap.size w w' := by
  by_cases h : A = 0
  · exact WideSums_zero hA hB (add256_w _ _) (sub256_w _ _) rfl rfl rfl rfl rfl h w
  · exact WideSums_more hA hB (add256_w _ _) (sub256_w _ _) rfl rfl rfl rfl rfl h w
end Go.Proofs.Ythpmbfdbknikcaa
