/- The examples of layer 6. -/
import Derived.Test.YtglagdmfplgfaaaRootR
import Derived.Test.YtglagdmfplgfaaaWideLit
import Derived.Test.YtglagdmfplgfaaaWordLit
import Derived.Test.YtglagdmfplgfaaaRegionG
import Derived.Test.YtglagdmfplgfaaaNum3
set_option linter.unusedVariables false
set_option linter.unusedSimpArgs false
namespace Go.Proofs.Ytglagdmfplgfaaa
open Go.RowKit

set_option maxRecDepth 100000 in
set_option maxHeartbeats 8000000 in
theorem goes06_any (w : World) :
    Calls Try.prog 33 #[] w fun e w' => e = .returned (.bool true) ∧ Below w.heap.size w w' := by
  have hk := Kept.refl w
  go_enter Try.func33, Try.ntmps33
  go_wp2_with fail
  (with_reducible refine (calls_to (V := .tuple #[.agg #[.int .u64 0, .int .u64 2], .bool false]) (Root_lit (R := 2) (b := false) (IsWide.val (isU64_mk (by decide +kernel)) u64_zero u64_zero u64_zero) (by decide +kernel) _) (by kernel_rfl)).mono ?_)
  rintro e w1 ⟨rfl, hb⟩
  have hk' : Kept w.heap.size w w1 := Kept.step (by repeat (first | with_reducible exact hk | with_reducible exact Kept.refl _ | with_reducible refine Kept.alloc ?_ _ | with_reducible refine Kept.drew ?_ | with_reducible refine Kept.setCell ?_ (by simp only [World.size_alloc, World.size_setCell, World.size_drew]; omega) _)) hb
  clear hk hb
  have hk := hk'
  clear hk'
  have hz_w1 := hk.size
  go_wp2_with fail
  (with_reducible refine (calls_to (V := .tuple #[.agg #[.int .u64 0, .int .u64 3], .bool true]) (Root_lit (R := 3) (b := true) (IsWide.val (isU64_mk (by decide +kernel)) u64_zero u64_zero u64_zero) (by decide +kernel) _) (by kernel_rfl)).mono ?_)
  rintro e w2 ⟨rfl, hb⟩
  have X1' : Box w2 (w1.heap.size) #[.int .u64 0, .int .u64 2] := Box.call hb (by repeat (first | with_reducible assumption | with_reducible apply Box.set10 | with_reducible apply Box.set20 | with_reducible apply Box.set21 | with_reducible apply Box.set40 | with_reducible apply Box.set41 | with_reducible apply Box.set42 | with_reducible apply Box.set43 | with_reducible apply Box.set50 | with_reducible apply Box.set51 | with_reducible apply Box.set52 | with_reducible apply Box.set53 | with_reducible apply Box.set54 | with_reducible apply Box.drew | (with_reducible apply Box.newAt; (try simp only [World.size_alloc, World.size_setCell, World.size_drew]); done) | with_reducible apply Box.alloc | (with_reducible apply Box.other; case hne => ((try simp only [World.size_alloc, World.size_setCell, World.size_drew]); omega))))
  have hk' : Kept w.heap.size w w2 := Kept.step (by repeat (first | with_reducible exact hk | with_reducible exact Kept.refl _ | with_reducible refine Kept.alloc ?_ _ | with_reducible refine Kept.drew ?_ | with_reducible refine Kept.setCell ?_ (by simp only [World.size_alloc, World.size_setCell, World.size_drew]; omega) _)) hb
  clear hk hb
  have X1 := X1'
  clear X1'
  have hk := hk'
  clear hk'
  have hz_w2 := hk.size
  have X1l := X1.lt
  have X1f := X1.free
  have X1l1 : w1.heap.size < w2.heap.size + 1 := by omega
  have X1l2 : w1.heap.size < w2.heap.size + 1 + 1 := by omega
  have X1l3 : w1.heap.size < w2.heap.size + 1 + 1 + 1 := by omega
  have X10 := X1.cell 0 _ rfl
  have X11 := X1.cell 1 _ rfl
  go_wp2
  go_ret
  exact ⟨rfl, (by refine Kept.below ?_; repeat (first | with_reducible exact hk | with_reducible exact Kept.refl _ | with_reducible refine Kept.alloc ?_ _ | with_reducible refine Kept.drew ?_ | with_reducible refine Kept.setCell ?_ (by simp only [World.size_alloc, World.size_setCell, World.size_drew]; omega) _))⟩

end Go.Proofs.Ytglagdmfplgfaaa
