/- The walk of RoundOrder. -/
import Derived.Test.YtpeamkplhfddbaaLaw15
set_option linter.unusedVariables false
set_option linter.unusedSimpArgs false
namespace Go.Proofs.Ytpeamkplhfddbaa
open Go.RowKit

set_option maxRecDepth 100000 in
set_option maxHeartbeats 4000000 in
theorem RoundOrder_le {V W : Nat} (hV : W256 V) (hW : W256 W) {n m : Int} (n0 : 0 ≤ n) (n1 : n ≤ 255) (m0 : 0 ≤ m) (m1 : m ≤ 255) (neg : Bool) (h : V ≤ W) (w : World) :
    Calls Try.prog 7 #[wideV V, wideV W, .int .u8 n, .int .u8 m, .bool neg] w fun e w' => e = .returned (.bool true) ∧ Below w.heap.size w w' := by
  have hk := Kept.refl w
  have k0 : 0 ≤ n % 128 := by omega
  have k1 : n % 128 ≤ 127 := by omega
  have q0 : 0 ≤ m % 5 := by omega
  have q1 : m % 5 ≤ 4 := by omega
  have f1 := cmp_le.2 h
  have f2 := cmp_le.2 (cut_mono h k0 k1 (m % 5) neg)
  clear h
  go_enter Try.func7, Try.ntmps7
  go_wp2_with fail
  (with_reducible refine (CmpW_at (by first | (with_reducible refine IsWide.of ?_; repeat (first | assumption | exact left_w _ _ | refine right_w ?_ _ | refine jam_w ?_ _)) | (with_reducible refine IsWide.val ?_ ?_ ?_ ?_ <;> first | assumption | exact u64_zero | exact limb_u64 _ _ | exact isU64_mk (by decide +kernel))) (by first | (with_reducible refine IsWide.of ?_; repeat (first | assumption | exact left_w _ _ | refine right_w ?_ _ | refine jam_w ?_ _)) | (with_reducible refine IsWide.val ?_ ?_ ?_ ?_ <;> first | assumption | exact u64_zero | exact limb_u64 _ _ | exact isU64_mk (by decide +kernel))) _).mono ?_)
  rintro e w1 ⟨rfl, hb⟩
  have Bv' : Box w1 (w.heap.size) _ := Box.call hb (by repeat (first | with_reducible assumption | with_reducible apply Box.set10 | with_reducible apply Box.set20 | with_reducible apply Box.set21 | with_reducible apply Box.set40 | with_reducible apply Box.set41 | with_reducible apply Box.set42 | with_reducible apply Box.set43 | with_reducible apply Box.set50 | with_reducible apply Box.set51 | with_reducible apply Box.set52 | with_reducible apply Box.set53 | with_reducible apply Box.set54 | with_reducible apply Box.drew | (with_reducible apply Box.newAt; (try simp only [World.size_alloc, World.size_setCell, World.size_drew]); done) | with_reducible apply Box.alloc | (with_reducible apply Box.other; case hne => ((try simp only [World.size_alloc, World.size_setCell, World.size_drew]); omega))))
  have Bw' : Box w1 (w.heap.size + 1) _ := Box.call hb (by repeat (first | with_reducible assumption | with_reducible apply Box.set10 | with_reducible apply Box.set20 | with_reducible apply Box.set21 | with_reducible apply Box.set40 | with_reducible apply Box.set41 | with_reducible apply Box.set42 | with_reducible apply Box.set43 | with_reducible apply Box.set50 | with_reducible apply Box.set51 | with_reducible apply Box.set52 | with_reducible apply Box.set53 | with_reducible apply Box.set54 | with_reducible apply Box.drew | (with_reducible apply Box.newAt; (try simp only [World.size_alloc, World.size_setCell, World.size_drew]); done) | with_reducible apply Box.alloc | (with_reducible apply Box.other; case hne => ((try simp only [World.size_alloc, World.size_setCell, World.size_drew]); omega))))
  have hk' : Kept w.heap.size w w1 := Kept.step (by repeat (first | with_reducible exact hk | with_reducible exact Kept.refl _ | with_reducible refine Kept.alloc ?_ _ | with_reducible refine Kept.drew ?_ | with_reducible refine Kept.setCell ?_ (by simp only [World.size_alloc, World.size_setCell, World.size_drew]; omega) _)) hb
  clear hk
  have Bv := Bv'
  clear Bv'
  have Bw := Bw'
  clear Bw'
  have hk := hk'
  clear hk' hb
  have hz_w1 := hk.size
  have Bvc := Bv.cell
  have Bvl := Bv.lt
  have Bvf := Bv.free
  have Bvl1 : w.heap.size < w1.heap.size + 1 := by omega
  have Bvl2 : w.heap.size < w1.heap.size + 1 + 1 := by omega
  have Bvl3 : w.heap.size < w1.heap.size + 1 + 1 + 1 := by omega
  have Bv0 := Bvc 0 _ rfl
  have Bv1 := Bvc 1 _ rfl
  have Bv2 := Bvc 2 _ rfl
  have Bv3 := Bvc 3 _ rfl
  clear Bvc
  have Bwc := Bw.cell
  have Bwl := Bw.lt
  have Bwf := Bw.free
  have Bwl1 : w.heap.size + 1 < w1.heap.size + 1 := by omega
  have Bwl2 : w.heap.size + 1 < w1.heap.size + 1 + 1 := by omega
  have Bwl3 : w.heap.size + 1 < w1.heap.size + 1 + 1 + 1 := by omega
  have Bw0 := Bwc 0 _ rfl
  have Bw1 := Bwc 1 _ rfl
  have Bw2 := Bwc 2 _ rfl
  have Bw3 := Bwc 3 _ rfl
  clear Bwc
  go_wp2_with fail
  (with_reducible refine (Cut_in (by repeat (first | assumption | refine right_w ?_ _ | refine jam_w ?_ _)) (by omega) (by omega) (by omega) (by omega) _ _).mono ?_)
  rintro e w2 ⟨rfl, hb⟩
  have Bv' : Box w2 (w.heap.size) _ := Box.call hb (by repeat (first | with_reducible assumption | with_reducible apply Box.set10 | with_reducible apply Box.set20 | with_reducible apply Box.set21 | with_reducible apply Box.set40 | with_reducible apply Box.set41 | with_reducible apply Box.set42 | with_reducible apply Box.set43 | with_reducible apply Box.set50 | with_reducible apply Box.set51 | with_reducible apply Box.set52 | with_reducible apply Box.set53 | with_reducible apply Box.set54 | with_reducible apply Box.drew | (with_reducible apply Box.newAt; (try simp only [World.size_alloc, World.size_setCell, World.size_drew]); done) | with_reducible apply Box.alloc | (with_reducible apply Box.other; case hne => ((try simp only [World.size_alloc, World.size_setCell, World.size_drew]); omega))))
  have Bw' : Box w2 (w.heap.size + 1) _ := Box.call hb (by repeat (first | with_reducible assumption | with_reducible apply Box.set10 | with_reducible apply Box.set20 | with_reducible apply Box.set21 | with_reducible apply Box.set40 | with_reducible apply Box.set41 | with_reducible apply Box.set42 | with_reducible apply Box.set43 | with_reducible apply Box.set50 | with_reducible apply Box.set51 | with_reducible apply Box.set52 | with_reducible apply Box.set53 | with_reducible apply Box.set54 | with_reducible apply Box.drew | (with_reducible apply Box.newAt; (try simp only [World.size_alloc, World.size_setCell, World.size_drew]); done) | with_reducible apply Box.alloc | (with_reducible apply Box.other; case hne => ((try simp only [World.size_alloc, World.size_setCell, World.size_drew]); omega))))
  have hk' : Kept w.heap.size w w2 := Kept.step (by repeat (first | with_reducible exact hk | with_reducible exact Kept.refl _ | with_reducible refine Kept.alloc ?_ _ | with_reducible refine Kept.drew ?_ | with_reducible refine Kept.setCell ?_ (by simp only [World.size_alloc, World.size_setCell, World.size_drew]; omega) _)) hb
  clear hk
  clear Bvl1 Bvl2 Bvl3 Bvf Bv0 Bv1 Bv2 Bv3
  clear Bwl1 Bwl2 Bwl3 Bwf Bw0 Bw1 Bw2 Bw3
  clear Bv
  clear Bw
  have Bv := Bv'
  clear Bv'
  have Bw := Bw'
  clear Bw'
  have hk := hk'
  clear hk' hb
  have hz_w2 := hk.size
  have Bvc := Bv.cell
  have Bvl := Bv.lt
  have Bvf := Bv.free
  have Bvl1 : w.heap.size < w2.heap.size + 1 := by omega
  have Bvl2 : w.heap.size < w2.heap.size + 1 + 1 := by omega
  have Bvl3 : w.heap.size < w2.heap.size + 1 + 1 + 1 := by omega
  have Bv0 := Bvc 0 _ rfl
  have Bv1 := Bvc 1 _ rfl
  have Bv2 := Bvc 2 _ rfl
  have Bv3 := Bvc 3 _ rfl
  clear Bvc
  have Bwc := Bw.cell
  have Bwl := Bw.lt
  have Bwf := Bw.free
  have Bwl1 : w.heap.size + 1 < w2.heap.size + 1 := by omega
  have Bwl2 : w.heap.size + 1 < w2.heap.size + 1 + 1 := by omega
  have Bwl3 : w.heap.size + 1 < w2.heap.size + 1 + 1 + 1 := by omega
  have Bw0 := Bwc 0 _ rfl
  have Bw1 := Bwc 1 _ rfl
  have Bw2 := Bwc 2 _ rfl
  have Bw3 := Bwc 3 _ rfl
  clear Bwc
  go_wp2_with fail
  (with_reducible refine (Cut_in (by repeat (first | assumption | refine right_w ?_ _ | refine jam_w ?_ _)) (by omega) (by omega) (by omega) (by omega) _ _).mono ?_)
  rintro e w3 ⟨rfl, hb⟩
  have Bv' : Box w3 (w.heap.size) _ := Box.call hb (by repeat (first | with_reducible assumption | with_reducible apply Box.set10 | with_reducible apply Box.set20 | with_reducible apply Box.set21 | with_reducible apply Box.set40 | with_reducible apply Box.set41 | with_reducible apply Box.set42 | with_reducible apply Box.set43 | with_reducible apply Box.set50 | with_reducible apply Box.set51 | with_reducible apply Box.set52 | with_reducible apply Box.set53 | with_reducible apply Box.set54 | with_reducible apply Box.drew | (with_reducible apply Box.newAt; (try simp only [World.size_alloc, World.size_setCell, World.size_drew]); done) | with_reducible apply Box.alloc | (with_reducible apply Box.other; case hne => ((try simp only [World.size_alloc, World.size_setCell, World.size_drew]); omega))))
  have Bw' : Box w3 (w.heap.size + 1) _ := Box.call hb (by repeat (first | with_reducible assumption | with_reducible apply Box.set10 | with_reducible apply Box.set20 | with_reducible apply Box.set21 | with_reducible apply Box.set40 | with_reducible apply Box.set41 | with_reducible apply Box.set42 | with_reducible apply Box.set43 | with_reducible apply Box.set50 | with_reducible apply Box.set51 | with_reducible apply Box.set52 | with_reducible apply Box.set53 | with_reducible apply Box.set54 | with_reducible apply Box.drew | (with_reducible apply Box.newAt; (try simp only [World.size_alloc, World.size_setCell, World.size_drew]); done) | with_reducible apply Box.alloc | (with_reducible apply Box.other; case hne => ((try simp only [World.size_alloc, World.size_setCell, World.size_drew]); omega))))
  have Ba' : Box w3 (w2.heap.size) _ := Box.call hb (by repeat (first | with_reducible assumption | with_reducible apply Box.set10 | with_reducible apply Box.set20 | with_reducible apply Box.set21 | with_reducible apply Box.set40 | with_reducible apply Box.set41 | with_reducible apply Box.set42 | with_reducible apply Box.set43 | with_reducible apply Box.set50 | with_reducible apply Box.set51 | with_reducible apply Box.set52 | with_reducible apply Box.set53 | with_reducible apply Box.set54 | with_reducible apply Box.drew | (with_reducible apply Box.newAt; (try simp only [World.size_alloc, World.size_setCell, World.size_drew]); done) | with_reducible apply Box.alloc | (with_reducible apply Box.other; case hne => ((try simp only [World.size_alloc, World.size_setCell, World.size_drew]); omega))))
  have hk' : Kept w.heap.size w w3 := Kept.step (by repeat (first | with_reducible exact hk | with_reducible exact Kept.refl _ | with_reducible refine Kept.alloc ?_ _ | with_reducible refine Kept.drew ?_ | with_reducible refine Kept.setCell ?_ (by simp only [World.size_alloc, World.size_setCell, World.size_drew]; omega) _)) hb
  clear hk
  clear Bvl1 Bvl2 Bvl3 Bvf Bv0 Bv1 Bv2 Bv3
  clear Bwl1 Bwl2 Bwl3 Bwf Bw0 Bw1 Bw2 Bw3
  clear Bv
  clear Bw
  have Bv := Bv'
  clear Bv'
  have Bw := Bw'
  clear Bw'
  have Ba := Ba'
  clear Ba'
  have hk := hk'
  clear hk' hb
  have hz_w3 := hk.size
  have Bvc := Bv.cell
  have Bvl := Bv.lt
  have Bvf := Bv.free
  have Bvl1 : w.heap.size < w3.heap.size + 1 := by omega
  have Bvl2 : w.heap.size < w3.heap.size + 1 + 1 := by omega
  have Bvl3 : w.heap.size < w3.heap.size + 1 + 1 + 1 := by omega
  have Bv0 := Bvc 0 _ rfl
  have Bv1 := Bvc 1 _ rfl
  have Bv2 := Bvc 2 _ rfl
  have Bv3 := Bvc 3 _ rfl
  clear Bvc
  have Bwc := Bw.cell
  have Bwl := Bw.lt
  have Bwf := Bw.free
  have Bwl1 : w.heap.size + 1 < w3.heap.size + 1 := by omega
  have Bwl2 : w.heap.size + 1 < w3.heap.size + 1 + 1 := by omega
  have Bwl3 : w.heap.size + 1 < w3.heap.size + 1 + 1 + 1 := by omega
  have Bw0 := Bwc 0 _ rfl
  have Bw1 := Bwc 1 _ rfl
  have Bw2 := Bwc 2 _ rfl
  have Bw3 := Bwc 3 _ rfl
  clear Bwc
  have Bac := Ba.cell
  have Bal := Ba.lt
  have Baf := Ba.free
  have Bal1 : w2.heap.size < w3.heap.size + 1 := by omega
  have Bal2 : w2.heap.size < w3.heap.size + 1 + 1 := by omega
  have Bal3 : w2.heap.size < w3.heap.size + 1 + 1 + 1 := by omega
  have Ba0 := Bac 0 _ rfl
  have Ba1 := Bac 1 _ rfl
  clear Bac
  go_wp2_with fail
  (with_reducible refine (Cmp_at (by first | (with_reducible refine IsBits.of ?_; first | assumption | exact add128_w _ _ | exact sub128_w _ _ | exact cut_w (by assumption) (by omega) (by omega) _ _ | exact floor_w (by assumption) (by omega) (by omega)) | (with_reducible refine IsBits.val ?_ ?_ <;> first | assumption | exact u64_zero | exact limb_u64 _ _ | exact isU64_mk (by decide +kernel))) (by first | (with_reducible refine IsBits.of ?_; first | assumption | exact add128_w _ _ | exact sub128_w _ _ | exact cut_w (by assumption) (by omega) (by omega) _ _ | exact floor_w (by assumption) (by omega) (by omega)) | (with_reducible refine IsBits.val ?_ ?_ <;> first | assumption | exact u64_zero | exact limb_u64 _ _ | exact isU64_mk (by decide +kernel))) _).mono ?_)
  rintro e w4 ⟨rfl, hb⟩
  have Bv' : Box w4 (w.heap.size) _ := Box.call hb (by repeat (first | with_reducible assumption | with_reducible apply Box.set10 | with_reducible apply Box.set20 | with_reducible apply Box.set21 | with_reducible apply Box.set40 | with_reducible apply Box.set41 | with_reducible apply Box.set42 | with_reducible apply Box.set43 | with_reducible apply Box.set50 | with_reducible apply Box.set51 | with_reducible apply Box.set52 | with_reducible apply Box.set53 | with_reducible apply Box.set54 | with_reducible apply Box.drew | (with_reducible apply Box.newAt; (try simp only [World.size_alloc, World.size_setCell, World.size_drew]); done) | with_reducible apply Box.alloc | (with_reducible apply Box.other; case hne => ((try simp only [World.size_alloc, World.size_setCell, World.size_drew]); omega))))
  have Bw' : Box w4 (w.heap.size + 1) _ := Box.call hb (by repeat (first | with_reducible assumption | with_reducible apply Box.set10 | with_reducible apply Box.set20 | with_reducible apply Box.set21 | with_reducible apply Box.set40 | with_reducible apply Box.set41 | with_reducible apply Box.set42 | with_reducible apply Box.set43 | with_reducible apply Box.set50 | with_reducible apply Box.set51 | with_reducible apply Box.set52 | with_reducible apply Box.set53 | with_reducible apply Box.set54 | with_reducible apply Box.drew | (with_reducible apply Box.newAt; (try simp only [World.size_alloc, World.size_setCell, World.size_drew]); done) | with_reducible apply Box.alloc | (with_reducible apply Box.other; case hne => ((try simp only [World.size_alloc, World.size_setCell, World.size_drew]); omega))))
  have Ba' : Box w4 (w2.heap.size) _ := Box.call hb (by repeat (first | with_reducible assumption | with_reducible apply Box.set10 | with_reducible apply Box.set20 | with_reducible apply Box.set21 | with_reducible apply Box.set40 | with_reducible apply Box.set41 | with_reducible apply Box.set42 | with_reducible apply Box.set43 | with_reducible apply Box.set50 | with_reducible apply Box.set51 | with_reducible apply Box.set52 | with_reducible apply Box.set53 | with_reducible apply Box.set54 | with_reducible apply Box.drew | (with_reducible apply Box.newAt; (try simp only [World.size_alloc, World.size_setCell, World.size_drew]); done) | with_reducible apply Box.alloc | (with_reducible apply Box.other; case hne => ((try simp only [World.size_alloc, World.size_setCell, World.size_drew]); omega))))
  have Bb' : Box w4 (w3.heap.size) _ := Box.call hb (by repeat (first | with_reducible assumption | with_reducible apply Box.set10 | with_reducible apply Box.set20 | with_reducible apply Box.set21 | with_reducible apply Box.set40 | with_reducible apply Box.set41 | with_reducible apply Box.set42 | with_reducible apply Box.set43 | with_reducible apply Box.set50 | with_reducible apply Box.set51 | with_reducible apply Box.set52 | with_reducible apply Box.set53 | with_reducible apply Box.set54 | with_reducible apply Box.drew | (with_reducible apply Box.newAt; (try simp only [World.size_alloc, World.size_setCell, World.size_drew]); done) | with_reducible apply Box.alloc | (with_reducible apply Box.other; case hne => ((try simp only [World.size_alloc, World.size_setCell, World.size_drew]); omega))))
  have hk' : Kept w.heap.size w w4 := Kept.step (by repeat (first | with_reducible exact hk | with_reducible exact Kept.refl _ | with_reducible refine Kept.alloc ?_ _ | with_reducible refine Kept.drew ?_ | with_reducible refine Kept.setCell ?_ (by simp only [World.size_alloc, World.size_setCell, World.size_drew]; omega) _)) hb
  clear hk
  clear Bvl1 Bvl2 Bvl3 Bvf Bv0 Bv1 Bv2 Bv3
  clear Bwl1 Bwl2 Bwl3 Bwf Bw0 Bw1 Bw2 Bw3
  clear Bal1 Bal2 Bal3 Baf Ba0 Ba1
  clear Bv
  clear Bw
  clear Ba
  have Bv := Bv'
  clear Bv'
  have Bw := Bw'
  clear Bw'
  have Ba := Ba'
  clear Ba'
  have Bb := Bb'
  clear Bb'
  have hk := hk'
  clear hk' hb
  have hz_w4 := hk.size
  have Bvc := Bv.cell
  have Bvl := Bv.lt
  have Bvf := Bv.free
  have Bvl1 : w.heap.size < w4.heap.size + 1 := by omega
  have Bvl2 : w.heap.size < w4.heap.size + 1 + 1 := by omega
  have Bvl3 : w.heap.size < w4.heap.size + 1 + 1 + 1 := by omega
  have Bv0 := Bvc 0 _ rfl
  have Bv1 := Bvc 1 _ rfl
  have Bv2 := Bvc 2 _ rfl
  have Bv3 := Bvc 3 _ rfl
  clear Bvc
  have Bwc := Bw.cell
  have Bwl := Bw.lt
  have Bwf := Bw.free
  have Bwl1 : w.heap.size + 1 < w4.heap.size + 1 := by omega
  have Bwl2 : w.heap.size + 1 < w4.heap.size + 1 + 1 := by omega
  have Bwl3 : w.heap.size + 1 < w4.heap.size + 1 + 1 + 1 := by omega
  have Bw0 := Bwc 0 _ rfl
  have Bw1 := Bwc 1 _ rfl
  have Bw2 := Bwc 2 _ rfl
  have Bw3 := Bwc 3 _ rfl
  clear Bwc
  have Bac := Ba.cell
  have Bal := Ba.lt
  have Baf := Ba.free
  have Bal1 : w2.heap.size < w4.heap.size + 1 := by omega
  have Bal2 : w2.heap.size < w4.heap.size + 1 + 1 := by omega
  have Bal3 : w2.heap.size < w4.heap.size + 1 + 1 + 1 := by omega
  have Ba0 := Bac 0 _ rfl
  have Ba1 := Bac 1 _ rfl
  clear Bac
  have Bbc := Bb.cell
  have Bbl := Bb.lt
  have Bbf := Bb.free
  have Bbl1 : w3.heap.size < w4.heap.size + 1 := by omega
  have Bbl2 : w3.heap.size < w4.heap.size + 1 + 1 := by omega
  have Bbl3 : w3.heap.size < w4.heap.size + 1 + 1 + 1 := by omega
  have Bb0 := Bbc 0 _ rfl
  have Bb1 := Bbc 1 _ rfl
  clear Bbc
  go_wp2_with fail
  (with_reducible refine (goes15_any _).mono ?_)
  rintro e w5 ⟨rfl, hb⟩
  have Bv' : Box w5 (w.heap.size) _ := Box.call hb (by repeat (first | with_reducible assumption | with_reducible apply Box.set10 | with_reducible apply Box.set20 | with_reducible apply Box.set21 | with_reducible apply Box.set40 | with_reducible apply Box.set41 | with_reducible apply Box.set42 | with_reducible apply Box.set43 | with_reducible apply Box.set50 | with_reducible apply Box.set51 | with_reducible apply Box.set52 | with_reducible apply Box.set53 | with_reducible apply Box.set54 | with_reducible apply Box.drew | (with_reducible apply Box.newAt; (try simp only [World.size_alloc, World.size_setCell, World.size_drew]); done) | with_reducible apply Box.alloc | (with_reducible apply Box.other; case hne => ((try simp only [World.size_alloc, World.size_setCell, World.size_drew]); omega))))
  have Bw' : Box w5 (w.heap.size + 1) _ := Box.call hb (by repeat (first | with_reducible assumption | with_reducible apply Box.set10 | with_reducible apply Box.set20 | with_reducible apply Box.set21 | with_reducible apply Box.set40 | with_reducible apply Box.set41 | with_reducible apply Box.set42 | with_reducible apply Box.set43 | with_reducible apply Box.set50 | with_reducible apply Box.set51 | with_reducible apply Box.set52 | with_reducible apply Box.set53 | with_reducible apply Box.set54 | with_reducible apply Box.drew | (with_reducible apply Box.newAt; (try simp only [World.size_alloc, World.size_setCell, World.size_drew]); done) | with_reducible apply Box.alloc | (with_reducible apply Box.other; case hne => ((try simp only [World.size_alloc, World.size_setCell, World.size_drew]); omega))))
  have Ba' : Box w5 (w2.heap.size) _ := Box.call hb (by repeat (first | with_reducible assumption | with_reducible apply Box.set10 | with_reducible apply Box.set20 | with_reducible apply Box.set21 | with_reducible apply Box.set40 | with_reducible apply Box.set41 | with_reducible apply Box.set42 | with_reducible apply Box.set43 | with_reducible apply Box.set50 | with_reducible apply Box.set51 | with_reducible apply Box.set52 | with_reducible apply Box.set53 | with_reducible apply Box.set54 | with_reducible apply Box.drew | (with_reducible apply Box.newAt; (try simp only [World.size_alloc, World.size_setCell, World.size_drew]); done) | with_reducible apply Box.alloc | (with_reducible apply Box.other; case hne => ((try simp only [World.size_alloc, World.size_setCell, World.size_drew]); omega))))
  have Bb' : Box w5 (w3.heap.size) _ := Box.call hb (by repeat (first | with_reducible assumption | with_reducible apply Box.set10 | with_reducible apply Box.set20 | with_reducible apply Box.set21 | with_reducible apply Box.set40 | with_reducible apply Box.set41 | with_reducible apply Box.set42 | with_reducible apply Box.set43 | with_reducible apply Box.set50 | with_reducible apply Box.set51 | with_reducible apply Box.set52 | with_reducible apply Box.set53 | with_reducible apply Box.set54 | with_reducible apply Box.drew | (with_reducible apply Box.newAt; (try simp only [World.size_alloc, World.size_setCell, World.size_drew]); done) | with_reducible apply Box.alloc | (with_reducible apply Box.other; case hne => ((try simp only [World.size_alloc, World.size_setCell, World.size_drew]); omega))))
  have hk' : Kept w.heap.size w w5 := Kept.step (by repeat (first | with_reducible exact hk | with_reducible exact Kept.refl _ | with_reducible refine Kept.alloc ?_ _ | with_reducible refine Kept.drew ?_ | with_reducible refine Kept.setCell ?_ (by simp only [World.size_alloc, World.size_setCell, World.size_drew]; omega) _)) hb
  clear hk
  clear Bvl1 Bvl2 Bvl3 Bvf Bv0 Bv1 Bv2 Bv3
  clear Bwl1 Bwl2 Bwl3 Bwf Bw0 Bw1 Bw2 Bw3
  clear Bal1 Bal2 Bal3 Baf Ba0 Ba1
  clear Bbl1 Bbl2 Bbl3 Bbf Bb0 Bb1
  clear Bv
  clear Bw
  clear Ba
  clear Bb
  have Bv := Bv'
  clear Bv'
  have Bw := Bw'
  clear Bw'
  have Ba := Ba'
  clear Ba'
  have Bb := Bb'
  clear Bb'
  have hk := hk'
  clear hk' hb
  have hz_w5 := hk.size
  have Bvc := Bv.cell
  have Bvl := Bv.lt
  have Bvf := Bv.free
  have Bvl1 : w.heap.size < w5.heap.size + 1 := by omega
  have Bvl2 : w.heap.size < w5.heap.size + 1 + 1 := by omega
  have Bvl3 : w.heap.size < w5.heap.size + 1 + 1 + 1 := by omega
  have Bv0 := Bvc 0 _ rfl
  have Bv1 := Bvc 1 _ rfl
  have Bv2 := Bvc 2 _ rfl
  have Bv3 := Bvc 3 _ rfl
  clear Bvc
  have Bwc := Bw.cell
  have Bwl := Bw.lt
  have Bwf := Bw.free
  have Bwl1 : w.heap.size + 1 < w5.heap.size + 1 := by omega
  have Bwl2 : w.heap.size + 1 < w5.heap.size + 1 + 1 := by omega
  have Bwl3 : w.heap.size + 1 < w5.heap.size + 1 + 1 + 1 := by omega
  have Bw0 := Bwc 0 _ rfl
  have Bw1 := Bwc 1 _ rfl
  have Bw2 := Bwc 2 _ rfl
  have Bw3 := Bwc 3 _ rfl
  clear Bwc
  have Bac := Ba.cell
  have Bal := Ba.lt
  have Baf := Ba.free
  have Bal1 : w2.heap.size < w5.heap.size + 1 := by omega
  have Bal2 : w2.heap.size < w5.heap.size + 1 + 1 := by omega
  have Bal3 : w2.heap.size < w5.heap.size + 1 + 1 + 1 := by omega
  have Ba0 := Bac 0 _ rfl
  have Ba1 := Bac 1 _ rfl
  clear Bac
  have Bbc := Bb.cell
  have Bbl := Bb.lt
  have Bbf := Bb.free
  have Bbl1 : w3.heap.size < w5.heap.size + 1 := by omega
  have Bbl2 : w3.heap.size < w5.heap.size + 1 + 1 := by omega
  have Bbl3 : w3.heap.size < w5.heap.size + 1 + 1 + 1 := by omega
  have Bb0 := Bbc 0 _ rfl
  have Bb1 := Bbc 1 _ rfl
  clear Bbc
  go_wp2
  go_ret
  exact ⟨rfl, (by refine Kept.below ?_; repeat (first | with_reducible exact hk | with_reducible exact Kept.refl _ | with_reducible refine Kept.alloc ?_ _ | with_reducible refine Kept.drew ?_ | with_reducible refine Kept.setCell ?_ (by simp only [World.size_alloc, World.size_setCell, World.size_drew]; omega) _))⟩

set_option maxRecDepth 100000 in
set_option maxHeartbeats 4000000 in
theorem RoundOrder_gt {V W : Nat} (hV : W256 V) (hW : W256 W) {n m : Int} (n0 : 0 ≤ n) (n1 : n ≤ 255) (m0 : 0 ≤ m) (m1 : m ≤ 255) (neg : Bool) (h : W < V) (w : World) :
    Calls Try.prog 7 #[wideV V, wideV W, .int .u8 n, .int .u8 m, .bool neg] w fun e w' => e = .returned (.bool true) ∧ Below w.heap.size w w' := by
  have hk := Kept.refl w
  have k0 : 0 ≤ n % 128 := by omega
  have k1 : n % 128 ≤ 127 := by omega
  have q0 : 0 ≤ m % 5 := by omega
  have q1 : m % 5 ≤ 4 := by omega
  have f1 := cmp_gt h
  have f2 := cmp_le.2 (cut_mono (Nat.le_of_lt h) k0 k1 (m % 5) neg)
  clear h
  go_enter Try.func7, Try.ntmps7
  go_wp2_with fail
  (with_reducible refine (CmpW_at (by first | (with_reducible refine IsWide.of ?_; repeat (first | assumption | exact left_w _ _ | refine right_w ?_ _ | refine jam_w ?_ _)) | (with_reducible refine IsWide.val ?_ ?_ ?_ ?_ <;> first | assumption | exact u64_zero | exact limb_u64 _ _ | exact isU64_mk (by decide +kernel))) (by first | (with_reducible refine IsWide.of ?_; repeat (first | assumption | exact left_w _ _ | refine right_w ?_ _ | refine jam_w ?_ _)) | (with_reducible refine IsWide.val ?_ ?_ ?_ ?_ <;> first | assumption | exact u64_zero | exact limb_u64 _ _ | exact isU64_mk (by decide +kernel))) _).mono ?_)
  rintro e w1 ⟨rfl, hb⟩
  have Bv' : Box w1 (w.heap.size) _ := Box.call hb (by repeat (first | with_reducible assumption | with_reducible apply Box.set10 | with_reducible apply Box.set20 | with_reducible apply Box.set21 | with_reducible apply Box.set40 | with_reducible apply Box.set41 | with_reducible apply Box.set42 | with_reducible apply Box.set43 | with_reducible apply Box.set50 | with_reducible apply Box.set51 | with_reducible apply Box.set52 | with_reducible apply Box.set53 | with_reducible apply Box.set54 | with_reducible apply Box.drew | (with_reducible apply Box.newAt; (try simp only [World.size_alloc, World.size_setCell, World.size_drew]); done) | with_reducible apply Box.alloc | (with_reducible apply Box.other; case hne => ((try simp only [World.size_alloc, World.size_setCell, World.size_drew]); omega))))
  have Bw' : Box w1 (w.heap.size + 1) _ := Box.call hb (by repeat (first | with_reducible assumption | with_reducible apply Box.set10 | with_reducible apply Box.set20 | with_reducible apply Box.set21 | with_reducible apply Box.set40 | with_reducible apply Box.set41 | with_reducible apply Box.set42 | with_reducible apply Box.set43 | with_reducible apply Box.set50 | with_reducible apply Box.set51 | with_reducible apply Box.set52 | with_reducible apply Box.set53 | with_reducible apply Box.set54 | with_reducible apply Box.drew | (with_reducible apply Box.newAt; (try simp only [World.size_alloc, World.size_setCell, World.size_drew]); done) | with_reducible apply Box.alloc | (with_reducible apply Box.other; case hne => ((try simp only [World.size_alloc, World.size_setCell, World.size_drew]); omega))))
  have hk' : Kept w.heap.size w w1 := Kept.step (by repeat (first | with_reducible exact hk | with_reducible exact Kept.refl _ | with_reducible refine Kept.alloc ?_ _ | with_reducible refine Kept.drew ?_ | with_reducible refine Kept.setCell ?_ (by simp only [World.size_alloc, World.size_setCell, World.size_drew]; omega) _)) hb
  clear hk
  have Bv := Bv'
  clear Bv'
  have Bw := Bw'
  clear Bw'
  have hk := hk'
  clear hk' hb
  have hz_w1 := hk.size
  have Bvc := Bv.cell
  have Bvl := Bv.lt
  have Bvf := Bv.free
  have Bvl1 : w.heap.size < w1.heap.size + 1 := by omega
  have Bvl2 : w.heap.size < w1.heap.size + 1 + 1 := by omega
  have Bvl3 : w.heap.size < w1.heap.size + 1 + 1 + 1 := by omega
  have Bv0 := Bvc 0 _ rfl
  have Bv1 := Bvc 1 _ rfl
  have Bv2 := Bvc 2 _ rfl
  have Bv3 := Bvc 3 _ rfl
  clear Bvc
  have Bwc := Bw.cell
  have Bwl := Bw.lt
  have Bwf := Bw.free
  have Bwl1 : w.heap.size + 1 < w1.heap.size + 1 := by omega
  have Bwl2 : w.heap.size + 1 < w1.heap.size + 1 + 1 := by omega
  have Bwl3 : w.heap.size + 1 < w1.heap.size + 1 + 1 + 1 := by omega
  have Bw0 := Bwc 0 _ rfl
  have Bw1 := Bwc 1 _ rfl
  have Bw2 := Bwc 2 _ rfl
  have Bw3 := Bwc 3 _ rfl
  clear Bwc
  go_wp2_with fail
  (with_reducible refine (Cut_in (by repeat (first | assumption | refine right_w ?_ _ | refine jam_w ?_ _)) (by omega) (by omega) (by omega) (by omega) _ _).mono ?_)
  rintro e w2 ⟨rfl, hb⟩
  have Bv' : Box w2 (w.heap.size) _ := Box.call hb (by repeat (first | with_reducible assumption | with_reducible apply Box.set10 | with_reducible apply Box.set20 | with_reducible apply Box.set21 | with_reducible apply Box.set40 | with_reducible apply Box.set41 | with_reducible apply Box.set42 | with_reducible apply Box.set43 | with_reducible apply Box.set50 | with_reducible apply Box.set51 | with_reducible apply Box.set52 | with_reducible apply Box.set53 | with_reducible apply Box.set54 | with_reducible apply Box.drew | (with_reducible apply Box.newAt; (try simp only [World.size_alloc, World.size_setCell, World.size_drew]); done) | with_reducible apply Box.alloc | (with_reducible apply Box.other; case hne => ((try simp only [World.size_alloc, World.size_setCell, World.size_drew]); omega))))
  have Bw' : Box w2 (w.heap.size + 1) _ := Box.call hb (by repeat (first | with_reducible assumption | with_reducible apply Box.set10 | with_reducible apply Box.set20 | with_reducible apply Box.set21 | with_reducible apply Box.set40 | with_reducible apply Box.set41 | with_reducible apply Box.set42 | with_reducible apply Box.set43 | with_reducible apply Box.set50 | with_reducible apply Box.set51 | with_reducible apply Box.set52 | with_reducible apply Box.set53 | with_reducible apply Box.set54 | with_reducible apply Box.drew | (with_reducible apply Box.newAt; (try simp only [World.size_alloc, World.size_setCell, World.size_drew]); done) | with_reducible apply Box.alloc | (with_reducible apply Box.other; case hne => ((try simp only [World.size_alloc, World.size_setCell, World.size_drew]); omega))))
  have hk' : Kept w.heap.size w w2 := Kept.step (by repeat (first | with_reducible exact hk | with_reducible exact Kept.refl _ | with_reducible refine Kept.alloc ?_ _ | with_reducible refine Kept.drew ?_ | with_reducible refine Kept.setCell ?_ (by simp only [World.size_alloc, World.size_setCell, World.size_drew]; omega) _)) hb
  clear hk
  clear Bvl1 Bvl2 Bvl3 Bvf Bv0 Bv1 Bv2 Bv3
  clear Bwl1 Bwl2 Bwl3 Bwf Bw0 Bw1 Bw2 Bw3
  clear Bv
  clear Bw
  have Bv := Bv'
  clear Bv'
  have Bw := Bw'
  clear Bw'
  have hk := hk'
  clear hk' hb
  have hz_w2 := hk.size
  have Bvc := Bv.cell
  have Bvl := Bv.lt
  have Bvf := Bv.free
  have Bvl1 : w.heap.size < w2.heap.size + 1 := by omega
  have Bvl2 : w.heap.size < w2.heap.size + 1 + 1 := by omega
  have Bvl3 : w.heap.size < w2.heap.size + 1 + 1 + 1 := by omega
  have Bv0 := Bvc 0 _ rfl
  have Bv1 := Bvc 1 _ rfl
  have Bv2 := Bvc 2 _ rfl
  have Bv3 := Bvc 3 _ rfl
  clear Bvc
  have Bwc := Bw.cell
  have Bwl := Bw.lt
  have Bwf := Bw.free
  have Bwl1 : w.heap.size + 1 < w2.heap.size + 1 := by omega
  have Bwl2 : w.heap.size + 1 < w2.heap.size + 1 + 1 := by omega
  have Bwl3 : w.heap.size + 1 < w2.heap.size + 1 + 1 + 1 := by omega
  have Bw0 := Bwc 0 _ rfl
  have Bw1 := Bwc 1 _ rfl
  have Bw2 := Bwc 2 _ rfl
  have Bw3 := Bwc 3 _ rfl
  clear Bwc
  go_wp2_with fail
  (with_reducible refine (Cut_in (by repeat (first | assumption | refine right_w ?_ _ | refine jam_w ?_ _)) (by omega) (by omega) (by omega) (by omega) _ _).mono ?_)
  rintro e w3 ⟨rfl, hb⟩
  have Bv' : Box w3 (w.heap.size) _ := Box.call hb (by repeat (first | with_reducible assumption | with_reducible apply Box.set10 | with_reducible apply Box.set20 | with_reducible apply Box.set21 | with_reducible apply Box.set40 | with_reducible apply Box.set41 | with_reducible apply Box.set42 | with_reducible apply Box.set43 | with_reducible apply Box.set50 | with_reducible apply Box.set51 | with_reducible apply Box.set52 | with_reducible apply Box.set53 | with_reducible apply Box.set54 | with_reducible apply Box.drew | (with_reducible apply Box.newAt; (try simp only [World.size_alloc, World.size_setCell, World.size_drew]); done) | with_reducible apply Box.alloc | (with_reducible apply Box.other; case hne => ((try simp only [World.size_alloc, World.size_setCell, World.size_drew]); omega))))
  have Bw' : Box w3 (w.heap.size + 1) _ := Box.call hb (by repeat (first | with_reducible assumption | with_reducible apply Box.set10 | with_reducible apply Box.set20 | with_reducible apply Box.set21 | with_reducible apply Box.set40 | with_reducible apply Box.set41 | with_reducible apply Box.set42 | with_reducible apply Box.set43 | with_reducible apply Box.set50 | with_reducible apply Box.set51 | with_reducible apply Box.set52 | with_reducible apply Box.set53 | with_reducible apply Box.set54 | with_reducible apply Box.drew | (with_reducible apply Box.newAt; (try simp only [World.size_alloc, World.size_setCell, World.size_drew]); done) | with_reducible apply Box.alloc | (with_reducible apply Box.other; case hne => ((try simp only [World.size_alloc, World.size_setCell, World.size_drew]); omega))))
  have Ba' : Box w3 (w2.heap.size) _ := Box.call hb (by repeat (first | with_reducible assumption | with_reducible apply Box.set10 | with_reducible apply Box.set20 | with_reducible apply Box.set21 | with_reducible apply Box.set40 | with_reducible apply Box.set41 | with_reducible apply Box.set42 | with_reducible apply Box.set43 | with_reducible apply Box.set50 | with_reducible apply Box.set51 | with_reducible apply Box.set52 | with_reducible apply Box.set53 | with_reducible apply Box.set54 | with_reducible apply Box.drew | (with_reducible apply Box.newAt; (try simp only [World.size_alloc, World.size_setCell, World.size_drew]); done) | with_reducible apply Box.alloc | (with_reducible apply Box.other; case hne => ((try simp only [World.size_alloc, World.size_setCell, World.size_drew]); omega))))
  have hk' : Kept w.heap.size w w3 := Kept.step (by repeat (first | with_reducible exact hk | with_reducible exact Kept.refl _ | with_reducible refine Kept.alloc ?_ _ | with_reducible refine Kept.drew ?_ | with_reducible refine Kept.setCell ?_ (by simp only [World.size_alloc, World.size_setCell, World.size_drew]; omega) _)) hb
  clear hk
  clear Bvl1 Bvl2 Bvl3 Bvf Bv0 Bv1 Bv2 Bv3
  clear Bwl1 Bwl2 Bwl3 Bwf Bw0 Bw1 Bw2 Bw3
  clear Bv
  clear Bw
  have Bv := Bv'
  clear Bv'
  have Bw := Bw'
  clear Bw'
  have Ba := Ba'
  clear Ba'
  have hk := hk'
  clear hk' hb
  have hz_w3 := hk.size
  have Bvc := Bv.cell
  have Bvl := Bv.lt
  have Bvf := Bv.free
  have Bvl1 : w.heap.size < w3.heap.size + 1 := by omega
  have Bvl2 : w.heap.size < w3.heap.size + 1 + 1 := by omega
  have Bvl3 : w.heap.size < w3.heap.size + 1 + 1 + 1 := by omega
  have Bv0 := Bvc 0 _ rfl
  have Bv1 := Bvc 1 _ rfl
  have Bv2 := Bvc 2 _ rfl
  have Bv3 := Bvc 3 _ rfl
  clear Bvc
  have Bwc := Bw.cell
  have Bwl := Bw.lt
  have Bwf := Bw.free
  have Bwl1 : w.heap.size + 1 < w3.heap.size + 1 := by omega
  have Bwl2 : w.heap.size + 1 < w3.heap.size + 1 + 1 := by omega
  have Bwl3 : w.heap.size + 1 < w3.heap.size + 1 + 1 + 1 := by omega
  have Bw0 := Bwc 0 _ rfl
  have Bw1 := Bwc 1 _ rfl
  have Bw2 := Bwc 2 _ rfl
  have Bw3 := Bwc 3 _ rfl
  clear Bwc
  have Bac := Ba.cell
  have Bal := Ba.lt
  have Baf := Ba.free
  have Bal1 : w2.heap.size < w3.heap.size + 1 := by omega
  have Bal2 : w2.heap.size < w3.heap.size + 1 + 1 := by omega
  have Bal3 : w2.heap.size < w3.heap.size + 1 + 1 + 1 := by omega
  have Ba0 := Bac 0 _ rfl
  have Ba1 := Bac 1 _ rfl
  clear Bac
  go_wp2_with fail
  (with_reducible refine (Cmp_at (by first | (with_reducible refine IsBits.of ?_; first | assumption | exact add128_w _ _ | exact sub128_w _ _ | exact cut_w (by assumption) (by omega) (by omega) _ _ | exact floor_w (by assumption) (by omega) (by omega)) | (with_reducible refine IsBits.val ?_ ?_ <;> first | assumption | exact u64_zero | exact limb_u64 _ _ | exact isU64_mk (by decide +kernel))) (by first | (with_reducible refine IsBits.of ?_; first | assumption | exact add128_w _ _ | exact sub128_w _ _ | exact cut_w (by assumption) (by omega) (by omega) _ _ | exact floor_w (by assumption) (by omega) (by omega)) | (with_reducible refine IsBits.val ?_ ?_ <;> first | assumption | exact u64_zero | exact limb_u64 _ _ | exact isU64_mk (by decide +kernel))) _).mono ?_)
  rintro e w4 ⟨rfl, hb⟩
  have Bv' : Box w4 (w.heap.size) _ := Box.call hb (by repeat (first | with_reducible assumption | with_reducible apply Box.set10 | with_reducible apply Box.set20 | with_reducible apply Box.set21 | with_reducible apply Box.set40 | with_reducible apply Box.set41 | with_reducible apply Box.set42 | with_reducible apply Box.set43 | with_reducible apply Box.set50 | with_reducible apply Box.set51 | with_reducible apply Box.set52 | with_reducible apply Box.set53 | with_reducible apply Box.set54 | with_reducible apply Box.drew | (with_reducible apply Box.newAt; (try simp only [World.size_alloc, World.size_setCell, World.size_drew]); done) | with_reducible apply Box.alloc | (with_reducible apply Box.other; case hne => ((try simp only [World.size_alloc, World.size_setCell, World.size_drew]); omega))))
  have Bw' : Box w4 (w.heap.size + 1) _ := Box.call hb (by repeat (first | with_reducible assumption | with_reducible apply Box.set10 | with_reducible apply Box.set20 | with_reducible apply Box.set21 | with_reducible apply Box.set40 | with_reducible apply Box.set41 | with_reducible apply Box.set42 | with_reducible apply Box.set43 | with_reducible apply Box.set50 | with_reducible apply Box.set51 | with_reducible apply Box.set52 | with_reducible apply Box.set53 | with_reducible apply Box.set54 | with_reducible apply Box.drew | (with_reducible apply Box.newAt; (try simp only [World.size_alloc, World.size_setCell, World.size_drew]); done) | with_reducible apply Box.alloc | (with_reducible apply Box.other; case hne => ((try simp only [World.size_alloc, World.size_setCell, World.size_drew]); omega))))
  have Ba' : Box w4 (w2.heap.size) _ := Box.call hb (by repeat (first | with_reducible assumption | with_reducible apply Box.set10 | with_reducible apply Box.set20 | with_reducible apply Box.set21 | with_reducible apply Box.set40 | with_reducible apply Box.set41 | with_reducible apply Box.set42 | with_reducible apply Box.set43 | with_reducible apply Box.set50 | with_reducible apply Box.set51 | with_reducible apply Box.set52 | with_reducible apply Box.set53 | with_reducible apply Box.set54 | with_reducible apply Box.drew | (with_reducible apply Box.newAt; (try simp only [World.size_alloc, World.size_setCell, World.size_drew]); done) | with_reducible apply Box.alloc | (with_reducible apply Box.other; case hne => ((try simp only [World.size_alloc, World.size_setCell, World.size_drew]); omega))))
  have Bb' : Box w4 (w3.heap.size) _ := Box.call hb (by repeat (first | with_reducible assumption | with_reducible apply Box.set10 | with_reducible apply Box.set20 | with_reducible apply Box.set21 | with_reducible apply Box.set40 | with_reducible apply Box.set41 | with_reducible apply Box.set42 | with_reducible apply Box.set43 | with_reducible apply Box.set50 | with_reducible apply Box.set51 | with_reducible apply Box.set52 | with_reducible apply Box.set53 | with_reducible apply Box.set54 | with_reducible apply Box.drew | (with_reducible apply Box.newAt; (try simp only [World.size_alloc, World.size_setCell, World.size_drew]); done) | with_reducible apply Box.alloc | (with_reducible apply Box.other; case hne => ((try simp only [World.size_alloc, World.size_setCell, World.size_drew]); omega))))
  have hk' : Kept w.heap.size w w4 := Kept.step (by repeat (first | with_reducible exact hk | with_reducible exact Kept.refl _ | with_reducible refine Kept.alloc ?_ _ | with_reducible refine Kept.drew ?_ | with_reducible refine Kept.setCell ?_ (by simp only [World.size_alloc, World.size_setCell, World.size_drew]; omega) _)) hb
  clear hk
  clear Bvl1 Bvl2 Bvl3 Bvf Bv0 Bv1 Bv2 Bv3
  clear Bwl1 Bwl2 Bwl3 Bwf Bw0 Bw1 Bw2 Bw3
  clear Bal1 Bal2 Bal3 Baf Ba0 Ba1
  clear Bv
  clear Bw
  clear Ba
  have Bv := Bv'
  clear Bv'
  have Bw := Bw'
  clear Bw'
  have Ba := Ba'
  clear Ba'
  have Bb := Bb'
  clear Bb'
  have hk := hk'
  clear hk' hb
  have hz_w4 := hk.size
  have Bvc := Bv.cell
  have Bvl := Bv.lt
  have Bvf := Bv.free
  have Bvl1 : w.heap.size < w4.heap.size + 1 := by omega
  have Bvl2 : w.heap.size < w4.heap.size + 1 + 1 := by omega
  have Bvl3 : w.heap.size < w4.heap.size + 1 + 1 + 1 := by omega
  have Bv0 := Bvc 0 _ rfl
  have Bv1 := Bvc 1 _ rfl
  have Bv2 := Bvc 2 _ rfl
  have Bv3 := Bvc 3 _ rfl
  clear Bvc
  have Bwc := Bw.cell
  have Bwl := Bw.lt
  have Bwf := Bw.free
  have Bwl1 : w.heap.size + 1 < w4.heap.size + 1 := by omega
  have Bwl2 : w.heap.size + 1 < w4.heap.size + 1 + 1 := by omega
  have Bwl3 : w.heap.size + 1 < w4.heap.size + 1 + 1 + 1 := by omega
  have Bw0 := Bwc 0 _ rfl
  have Bw1 := Bwc 1 _ rfl
  have Bw2 := Bwc 2 _ rfl
  have Bw3 := Bwc 3 _ rfl
  clear Bwc
  have Bac := Ba.cell
  have Bal := Ba.lt
  have Baf := Ba.free
  have Bal1 : w2.heap.size < w4.heap.size + 1 := by omega
  have Bal2 : w2.heap.size < w4.heap.size + 1 + 1 := by omega
  have Bal3 : w2.heap.size < w4.heap.size + 1 + 1 + 1 := by omega
  have Ba0 := Bac 0 _ rfl
  have Ba1 := Bac 1 _ rfl
  clear Bac
  have Bbc := Bb.cell
  have Bbl := Bb.lt
  have Bbf := Bb.free
  have Bbl1 : w3.heap.size < w4.heap.size + 1 := by omega
  have Bbl2 : w3.heap.size < w4.heap.size + 1 + 1 := by omega
  have Bbl3 : w3.heap.size < w4.heap.size + 1 + 1 + 1 := by omega
  have Bb0 := Bbc 0 _ rfl
  have Bb1 := Bbc 1 _ rfl
  clear Bbc
  go_wp2_with fail
  (with_reducible refine (goes15_any _).mono ?_)
  rintro e w5 ⟨rfl, hb⟩
  have Bv' : Box w5 (w.heap.size) _ := Box.call hb (by repeat (first | with_reducible assumption | with_reducible apply Box.set10 | with_reducible apply Box.set20 | with_reducible apply Box.set21 | with_reducible apply Box.set40 | with_reducible apply Box.set41 | with_reducible apply Box.set42 | with_reducible apply Box.set43 | with_reducible apply Box.set50 | with_reducible apply Box.set51 | with_reducible apply Box.set52 | with_reducible apply Box.set53 | with_reducible apply Box.set54 | with_reducible apply Box.drew | (with_reducible apply Box.newAt; (try simp only [World.size_alloc, World.size_setCell, World.size_drew]); done) | with_reducible apply Box.alloc | (with_reducible apply Box.other; case hne => ((try simp only [World.size_alloc, World.size_setCell, World.size_drew]); omega))))
  have Bw' : Box w5 (w.heap.size + 1) _ := Box.call hb (by repeat (first | with_reducible assumption | with_reducible apply Box.set10 | with_reducible apply Box.set20 | with_reducible apply Box.set21 | with_reducible apply Box.set40 | with_reducible apply Box.set41 | with_reducible apply Box.set42 | with_reducible apply Box.set43 | with_reducible apply Box.set50 | with_reducible apply Box.set51 | with_reducible apply Box.set52 | with_reducible apply Box.set53 | with_reducible apply Box.set54 | with_reducible apply Box.drew | (with_reducible apply Box.newAt; (try simp only [World.size_alloc, World.size_setCell, World.size_drew]); done) | with_reducible apply Box.alloc | (with_reducible apply Box.other; case hne => ((try simp only [World.size_alloc, World.size_setCell, World.size_drew]); omega))))
  have Ba' : Box w5 (w2.heap.size) _ := Box.call hb (by repeat (first | with_reducible assumption | with_reducible apply Box.set10 | with_reducible apply Box.set20 | with_reducible apply Box.set21 | with_reducible apply Box.set40 | with_reducible apply Box.set41 | with_reducible apply Box.set42 | with_reducible apply Box.set43 | with_reducible apply Box.set50 | with_reducible apply Box.set51 | with_reducible apply Box.set52 | with_reducible apply Box.set53 | with_reducible apply Box.set54 | with_reducible apply Box.drew | (with_reducible apply Box.newAt; (try simp only [World.size_alloc, World.size_setCell, World.size_drew]); done) | with_reducible apply Box.alloc | (with_reducible apply Box.other; case hne => ((try simp only [World.size_alloc, World.size_setCell, World.size_drew]); omega))))
  have Bb' : Box w5 (w3.heap.size) _ := Box.call hb (by repeat (first | with_reducible assumption | with_reducible apply Box.set10 | with_reducible apply Box.set20 | with_reducible apply Box.set21 | with_reducible apply Box.set40 | with_reducible apply Box.set41 | with_reducible apply Box.set42 | with_reducible apply Box.set43 | with_reducible apply Box.set50 | with_reducible apply Box.set51 | with_reducible apply Box.set52 | with_reducible apply Box.set53 | with_reducible apply Box.set54 | with_reducible apply Box.drew | (with_reducible apply Box.newAt; (try simp only [World.size_alloc, World.size_setCell, World.size_drew]); done) | with_reducible apply Box.alloc | (with_reducible apply Box.other; case hne => ((try simp only [World.size_alloc, World.size_setCell, World.size_drew]); omega))))
  have hk' : Kept w.heap.size w w5 := Kept.step (by repeat (first | with_reducible exact hk | with_reducible exact Kept.refl _ | with_reducible refine Kept.alloc ?_ _ | with_reducible refine Kept.drew ?_ | with_reducible refine Kept.setCell ?_ (by simp only [World.size_alloc, World.size_setCell, World.size_drew]; omega) _)) hb
  clear hk
  clear Bvl1 Bvl2 Bvl3 Bvf Bv0 Bv1 Bv2 Bv3
  clear Bwl1 Bwl2 Bwl3 Bwf Bw0 Bw1 Bw2 Bw3
  clear Bal1 Bal2 Bal3 Baf Ba0 Ba1
  clear Bbl1 Bbl2 Bbl3 Bbf Bb0 Bb1
  clear Bv
  clear Bw
  clear Ba
  clear Bb
  have Bv := Bv'
  clear Bv'
  have Bw := Bw'
  clear Bw'
  have Ba := Ba'
  clear Ba'
  have Bb := Bb'
  clear Bb'
  have hk := hk'
  clear hk' hb
  have hz_w5 := hk.size
  have Bvc := Bv.cell
  have Bvl := Bv.lt
  have Bvf := Bv.free
  have Bvl1 : w.heap.size < w5.heap.size + 1 := by omega
  have Bvl2 : w.heap.size < w5.heap.size + 1 + 1 := by omega
  have Bvl3 : w.heap.size < w5.heap.size + 1 + 1 + 1 := by omega
  have Bv0 := Bvc 0 _ rfl
  have Bv1 := Bvc 1 _ rfl
  have Bv2 := Bvc 2 _ rfl
  have Bv3 := Bvc 3 _ rfl
  clear Bvc
  have Bwc := Bw.cell
  have Bwl := Bw.lt
  have Bwf := Bw.free
  have Bwl1 : w.heap.size + 1 < w5.heap.size + 1 := by omega
  have Bwl2 : w.heap.size + 1 < w5.heap.size + 1 + 1 := by omega
  have Bwl3 : w.heap.size + 1 < w5.heap.size + 1 + 1 + 1 := by omega
  have Bw0 := Bwc 0 _ rfl
  have Bw1 := Bwc 1 _ rfl
  have Bw2 := Bwc 2 _ rfl
  have Bw3 := Bwc 3 _ rfl
  clear Bwc
  have Bac := Ba.cell
  have Bal := Ba.lt
  have Baf := Ba.free
  have Bal1 : w2.heap.size < w5.heap.size + 1 := by omega
  have Bal2 : w2.heap.size < w5.heap.size + 1 + 1 := by omega
  have Bal3 : w2.heap.size < w5.heap.size + 1 + 1 + 1 := by omega
  have Ba0 := Bac 0 _ rfl
  have Ba1 := Bac 1 _ rfl
  clear Bac
  have Bbc := Bb.cell
  have Bbl := Bb.lt
  have Bbf := Bb.free
  have Bbl1 : w3.heap.size < w5.heap.size + 1 := by omega
  have Bbl2 : w3.heap.size < w5.heap.size + 1 + 1 := by omega
  have Bbl3 : w3.heap.size < w5.heap.size + 1 + 1 + 1 := by omega
  have Bb0 := Bbc 0 _ rfl
  have Bb1 := Bbc 1 _ rfl
  clear Bbc
  go_wp2
  go_ret
  exact ⟨rfl, (by refine Kept.below ?_; repeat (first | with_reducible exact hk | with_reducible exact Kept.refl _ | with_reducible refine Kept.alloc ?_ _ | with_reducible refine Kept.drew ?_ | with_reducible refine Kept.setCell ?_ (by simp only [World.size_alloc, World.size_setCell, World.size_drew]; omega) _))⟩

theorem RoundOrder_walk {V W : Nat} (hV : W256 V) (hW : W256 W) {n m : Int} (n0 : 0 ≤ n) (n1 : n ≤ 255) (m0 : 0 ≤ m) (m1 : m ≤ 255) (neg : Bool) (w : World) :
    Calls Try.prog 7 #[wideV V, wideV W, .int .u8 n, .int .u8 m, .bool neg] w fun e w' => e = .returned (.bool true) ∧ Below w.heap.size w w' := by
  by_cases h : V ≤ W
  · exact RoundOrder_le hV hW n0 n1 m0 m1 neg h w
  · exact RoundOrder_gt hV hW n0 n1 m0 m1 neg (Nat.lt_of_not_le h) w
end Go.Proofs.Ytpeamkplhfddbaa
