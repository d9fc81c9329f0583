/- The reference's rests of numbers far shifted: contract. -/
import Derived.Test.YtglagdmfplgfaaaRefDiv
import Derived.Test.YtglagdmfplgfaaaRefAll
import Derived.Test.YtglagdmfplgfaaaRegionG
set_option linter.unusedVariables false
set_option linter.unusedSimpArgs false
namespace Go.Proofs.Ytglagdmfplgfaaa
open Go.RowKit

theorem refDiv_to {x y : Value} {A D Q T : Nat} (eQ : A / D = Q) (eT : A % D = T) (hD : 0 < D) (w : World) (hx : IsN w x A) (hy : IsN w y D) (la : lenN A ≤ 512) (lb : lenN D ≤ 512) :
    Calls Try.prog 75 #[x, y] w fun e w' => ∃ q r, e = .returned (.tuple #[q, r]) ∧ IsN w' q Q ∧ IsN w' r T ∧ Below w.heap.size w w' := by
  subst eQ; subst eT; exact refDiv_any w hx hy la lb hD
theorem refShl_to5 {v : Value} {A S : Nat} {z : Int} (n : Nat) (hS' : A * 2 ^ n = S) (hz : z = n) (hn : n ≤ 65536) (w : World) (h : IsN w v A) (hl : lenN A ≤ 4096) :
    Calls Try.prog 45 #[v, .int .i64 z] w fun e w' => ∃ u, e = .returned u ∧ IsN w' u S ∧ Below w.heap.size w w' := by
  subst hS'; exact refShl_any n hz hn w h hl
set_option maxRecDepth 100000 in
set_option maxHeartbeats 8000000 in
theorem ref05Mod_yes {A D : Nat} {z : Int} (hA : W128 A) (hDw : W128 D) (hAD : A < D) {N S Q T : Nat} (hz : z = (N : Int)) (hN : N ≤ 700) (eS : A * 2 ^ N = S) (eQ : S / D = Q) (eT : S % D = T) (hT : W128 T) (lS : lenN S ≤ 40) (lQ : lenN Q ≤ 40) (w : World) :
    Calls Try.prog 39 #[bitsV A, .int .i64 z, bitsV D] w fun e w' => e = .returned (.tuple #[bitsV T, .bool (bitZ Q 0), .bool true]) ∧ Below w.heap.size w w' := by
  have hk := Kept.refl w
  have la := len128 hA; have ld := len128 hDw
  have c1 : cmpN A D < 0 := by rw [cmp_neg]; omega
  have HZ := Lib.hid hz
  have HS := Lib.hid eS; have HQ := Lib.hid eQ; have HT := Lib.hid eT
  have hD : 0 < D := by omega
  have lT := len128 hT
  have c2 : ¬ z < 0 := by omega
  have c3 : ¬ 40000 < z := by omega
  have c4 : 0 ≤ z := by omega
  have c5 : z ≤ 40000 := by omega
  clear eS eQ eT hAD hz
  go_enter Try.func39, Try.ntmps39
  go_wp2_with fail
  (with_reducible refine (Big_any (IsBits.of hDw).w _).mono ?_)
  rintro e w1 ⟨vN1, rfl, N1_, hb⟩
  have X1' : Box w1 (w.heap.size) #[.int .u64 (limb 1 A), .int .u64 (limb 0 A)] := Box.call hb (by repeat (first | with_reducible assumption | with_reducible apply Box.set10 | with_reducible apply Box.set20 | with_reducible apply Box.set21 | with_reducible apply Box.set40 | with_reducible apply Box.set41 | with_reducible apply Box.set42 | with_reducible apply Box.set43 | with_reducible apply Box.set50 | with_reducible apply Box.set51 | with_reducible apply Box.set52 | with_reducible apply Box.set53 | with_reducible apply Box.set54 | with_reducible apply Box.drew | (with_reducible apply Box.newAt; (try simp only [World.size_alloc, World.size_setCell, World.size_drew]); done) | with_reducible apply Box.alloc | (with_reducible apply Box.other; case hne => ((try simp only [World.size_alloc, World.size_setCell, World.size_drew]); omega))))
  have X3' : Box w1 (w.heap.size + 1 + 1) #[.int .u64 0, .int .u64 0] := Box.call hb (by repeat (first | with_reducible assumption | with_reducible apply Box.set10 | with_reducible apply Box.set20 | with_reducible apply Box.set21 | with_reducible apply Box.set40 | with_reducible apply Box.set41 | with_reducible apply Box.set42 | with_reducible apply Box.set43 | with_reducible apply Box.set50 | with_reducible apply Box.set51 | with_reducible apply Box.set52 | with_reducible apply Box.set53 | with_reducible apply Box.set54 | with_reducible apply Box.drew | (with_reducible apply Box.newAt; (try simp only [World.size_alloc, World.size_setCell, World.size_drew]); done) | with_reducible apply Box.alloc | (with_reducible apply Box.other; case hne => ((try simp only [World.size_alloc, World.size_setCell, World.size_drew]); omega))))
  have hk' : Kept w.heap.size w w1 := Kept.step (by repeat (first | with_reducible exact hk | with_reducible exact Kept.refl _ | with_reducible refine Kept.alloc ?_ _ | with_reducible refine Kept.drew ?_ | with_reducible refine Kept.setCell ?_ (by simp only [World.size_alloc, World.size_setCell, World.size_drew]; omega) _)) hb
  clear hk hb
  have X1 := X1'
  clear X1'
  have X3 := X3'
  clear X3'
  have hk := hk'
  clear hk'
  have hz_w1 := hk.size
  have X1l := X1.lt
  have X1f := X1.free
  have X1l1 : w.heap.size < w1.heap.size + 1 := by omega
  have X1l2 : w.heap.size < w1.heap.size + 1 + 1 := by omega
  have X1l3 : w.heap.size < w1.heap.size + 1 + 1 + 1 := by omega
  have X10 := X1.cell 0 _ rfl
  have X11 := X1.cell 1 _ rfl
  have X3l := X3.lt
  have X3f := X3.free
  have X3l1 : w.heap.size + 1 + 1 < w1.heap.size + 1 := by omega
  have X3l2 : w.heap.size + 1 + 1 < w1.heap.size + 1 + 1 := by omega
  have X3l3 : w.heap.size + 1 + 1 < w1.heap.size + 1 + 1 + 1 := by omega
  have X30 := X3.cell 0 _ rfl
  have X31 := X3.cell 1 _ rfl
  have N1 : IsN w1 vN1 (D) := N1_
  clear N1_
  go_wp2_with fail
  (with_reducible refine (Big_any (IsBits.of hA).w _).mono ?_)
  rintro e w2 ⟨vN2, rfl, N2_, hb⟩
  have X3' : Box w2 (w.heap.size + 1 + 1) #[.int .u64 0, .int .u64 0] := Box.call hb (by repeat (first | with_reducible assumption | with_reducible apply Box.set10 | with_reducible apply Box.set20 | with_reducible apply Box.set21 | with_reducible apply Box.set40 | with_reducible apply Box.set41 | with_reducible apply Box.set42 | with_reducible apply Box.set43 | with_reducible apply Box.set50 | with_reducible apply Box.set51 | with_reducible apply Box.set52 | with_reducible apply Box.set53 | with_reducible apply Box.set54 | with_reducible apply Box.drew | (with_reducible apply Box.newAt; (try simp only [World.size_alloc, World.size_setCell, World.size_drew]); done) | with_reducible apply Box.alloc | (with_reducible apply Box.other; case hne => ((try simp only [World.size_alloc, World.size_setCell, World.size_drew]); omega))))
  have N1' : IsN w2 vN1 (D) := (IsN.kept N1 (by repeat (first | with_reducible exact Kept.refl _ | with_reducible refine Kept.alloc ?_ _ | with_reducible refine Kept.drew ?_ | with_reducible refine Kept.setCell ?_ (by simp only [World.size_alloc, World.size_setCell, World.size_drew]; omega) _))).call hb
  have hk' : Kept w.heap.size w w2 := Kept.step (by repeat (first | with_reducible exact hk | with_reducible exact Kept.refl _ | with_reducible refine Kept.alloc ?_ _ | with_reducible refine Kept.drew ?_ | with_reducible refine Kept.setCell ?_ (by simp only [World.size_alloc, World.size_setCell, World.size_drew]; omega) _)) hb
  clear hk hb
  clear X1 X1l1 X1l2 X1l3 X1f X10 X11
  clear X3 X3l1 X3l2 X3l3 X3f X30 X31
  have X3 := X3'
  clear X3'
  clear N1
  have N1 := N1'
  clear N1'
  have hk := hk'
  clear hk'
  have hz_w2 := hk.size
  have X3l := X3.lt
  have X3f := X3.free
  have X3l1 : w.heap.size + 1 + 1 < w2.heap.size + 1 := by omega
  have X3l2 : w.heap.size + 1 + 1 < w2.heap.size + 1 + 1 := by omega
  have X3l3 : w.heap.size + 1 + 1 < w2.heap.size + 1 + 1 + 1 := by omega
  have X30 := X3.cell 0 _ rfl
  have X31 := X3.cell 1 _ rfl
  have N2 : IsN w2 vN2 (A) := N2_
  clear N2_
  go_wp2_with fail
  (with_reducible refine (refCmp_any _ (IsN.kept N2 (by repeat (first | with_reducible exact Kept.refl _ | with_reducible refine Kept.alloc ?_ _ | with_reducible refine Kept.drew ?_ | with_reducible refine Kept.setCell ?_ (by simp only [World.size_alloc, World.size_setCell, World.size_drew]; omega) _))) (IsN.kept N1 (by repeat (first | with_reducible exact Kept.refl _ | with_reducible refine Kept.alloc ?_ _ | with_reducible refine Kept.drew ?_ | with_reducible refine Kept.setCell ?_ (by simp only [World.size_alloc, World.size_setCell, World.size_drew]; omega) _))) (by omega) (by omega)).mono ?_)
  rintro e w3 ⟨rfl, hb⟩
  have X3' : Box w3 (w.heap.size + 1 + 1) #[.int .u64 0, .int .u64 0] := Box.call hb (by repeat (first | with_reducible assumption | with_reducible apply Box.set10 | with_reducible apply Box.set20 | with_reducible apply Box.set21 | with_reducible apply Box.set40 | with_reducible apply Box.set41 | with_reducible apply Box.set42 | with_reducible apply Box.set43 | with_reducible apply Box.set50 | with_reducible apply Box.set51 | with_reducible apply Box.set52 | with_reducible apply Box.set53 | with_reducible apply Box.set54 | with_reducible apply Box.drew | (with_reducible apply Box.newAt; (try simp only [World.size_alloc, World.size_setCell, World.size_drew]); done) | with_reducible apply Box.alloc | (with_reducible apply Box.other; case hne => ((try simp only [World.size_alloc, World.size_setCell, World.size_drew]); omega))))
  have N1' : IsN w3 vN1 (D) := (IsN.kept N1 (by repeat (first | with_reducible exact Kept.refl _ | with_reducible refine Kept.alloc ?_ _ | with_reducible refine Kept.drew ?_ | with_reducible refine Kept.setCell ?_ (by simp only [World.size_alloc, World.size_setCell, World.size_drew]; omega) _))).call hb
  have N2' : IsN w3 vN2 (A) := (IsN.kept N2 (by repeat (first | with_reducible exact Kept.refl _ | with_reducible refine Kept.alloc ?_ _ | with_reducible refine Kept.drew ?_ | with_reducible refine Kept.setCell ?_ (by simp only [World.size_alloc, World.size_setCell, World.size_drew]; omega) _))).call hb
  have hk' : Kept w.heap.size w w3 := Kept.step (by repeat (first | with_reducible exact hk | with_reducible exact Kept.refl _ | with_reducible refine Kept.alloc ?_ _ | with_reducible refine Kept.drew ?_ | with_reducible refine Kept.setCell ?_ (by simp only [World.size_alloc, World.size_setCell, World.size_drew]; omega) _)) hb
  clear hk hb
  clear X3 X3l1 X3l2 X3l3 X3f X30 X31
  have X3 := X3'
  clear X3'
  clear N1
  have N1 := N1'
  clear N1'
  clear N2
  have N2 := N2'
  clear N2'
  have hk := hk'
  clear hk'
  have hz_w3 := hk.size
  have X3l := X3.lt
  have X3f := X3.free
  have X3l1 : w.heap.size + 1 + 1 < w3.heap.size + 1 := by omega
  have X3l2 : w.heap.size + 1 + 1 < w3.heap.size + 1 + 1 := by omega
  have X3l3 : w.heap.size + 1 + 1 < w3.heap.size + 1 + 1 + 1 := by omega
  have X30 := X3.cell 0 _ rfl
  have X31 := X3.cell 1 _ rfl
  go_wp2_with fail
  (with_reducible refine (refShl_to5 N HS.out HZ.out (by omega) _ (IsN.kept N2 (by repeat (first | with_reducible exact Kept.refl _ | with_reducible refine Kept.alloc ?_ _ | with_reducible refine Kept.drew ?_ | with_reducible refine Kept.setCell ?_ (by simp only [World.size_alloc, World.size_setCell, World.size_drew]; omega) _))) (by omega)).mono ?_)
  rintro e w4 ⟨vN3, rfl, N3_, hb⟩
  have X3' : Box w4 (w.heap.size + 1 + 1) #[.int .u64 0, .int .u64 0] := Box.call hb (by repeat (first | with_reducible assumption | with_reducible apply Box.set10 | with_reducible apply Box.set20 | with_reducible apply Box.set21 | with_reducible apply Box.set40 | with_reducible apply Box.set41 | with_reducible apply Box.set42 | with_reducible apply Box.set43 | with_reducible apply Box.set50 | with_reducible apply Box.set51 | with_reducible apply Box.set52 | with_reducible apply Box.set53 | with_reducible apply Box.set54 | with_reducible apply Box.drew | (with_reducible apply Box.newAt; (try simp only [World.size_alloc, World.size_setCell, World.size_drew]); done) | with_reducible apply Box.alloc | (with_reducible apply Box.other; case hne => ((try simp only [World.size_alloc, World.size_setCell, World.size_drew]); omega))))
  have N1' : IsN w4 vN1 (D) := (IsN.kept N1 (by repeat (first | with_reducible exact Kept.refl _ | with_reducible refine Kept.alloc ?_ _ | with_reducible refine Kept.drew ?_ | with_reducible refine Kept.setCell ?_ (by simp only [World.size_alloc, World.size_setCell, World.size_drew]; omega) _))).call hb
  have N2' : IsN w4 vN2 (A) := (IsN.kept N2 (by repeat (first | with_reducible exact Kept.refl _ | with_reducible refine Kept.alloc ?_ _ | with_reducible refine Kept.drew ?_ | with_reducible refine Kept.setCell ?_ (by simp only [World.size_alloc, World.size_setCell, World.size_drew]; omega) _))).call hb
  have hk' : Kept w.heap.size w w4 := Kept.step (by repeat (first | with_reducible exact hk | with_reducible exact Kept.refl _ | with_reducible refine Kept.alloc ?_ _ | with_reducible refine Kept.drew ?_ | with_reducible refine Kept.setCell ?_ (by simp only [World.size_alloc, World.size_setCell, World.size_drew]; omega) _)) hb
  clear hk hb
  clear X3 X3l1 X3l2 X3l3 X3f X30 X31
  have X3 := X3'
  clear X3'
  clear N1
  have N1 := N1'
  clear N1'
  clear N2
  have N2 := N2'
  clear N2'
  have hk := hk'
  clear hk'
  have hz_w4 := hk.size
  have X3l := X3.lt
  have X3f := X3.free
  have X3l1 : w.heap.size + 1 + 1 < w4.heap.size + 1 := by omega
  have X3l2 : w.heap.size + 1 + 1 < w4.heap.size + 1 + 1 := by omega
  have X3l3 : w.heap.size + 1 + 1 < w4.heap.size + 1 + 1 + 1 := by omega
  have X30 := X3.cell 0 _ rfl
  have X31 := X3.cell 1 _ rfl
  have N3 : IsN w4 vN3 (S) := N3_
  clear N3_
  clear N2
  go_wp2_with fail
  (with_reducible refine (refDiv_to HQ.out HT.out hD _ (IsN.kept N3 (by repeat (first | with_reducible exact Kept.refl _ | with_reducible refine Kept.alloc ?_ _ | with_reducible refine Kept.drew ?_ | with_reducible refine Kept.setCell ?_ (by simp only [World.size_alloc, World.size_setCell, World.size_drew]; omega) _))) (IsN.kept N1 (by repeat (first | with_reducible exact Kept.refl _ | with_reducible refine Kept.alloc ?_ _ | with_reducible refine Kept.drew ?_ | with_reducible refine Kept.setCell ?_ (by simp only [World.size_alloc, World.size_setCell, World.size_drew]; omega) _))) (by omega) (by omega)).mono ?_)
  rintro e w5 ⟨vN4, vN5, rfl, N4_, N5_, hb⟩
  have X3' : Box w5 (w.heap.size + 1 + 1) #[.int .u64 0, .int .u64 0] := Box.call hb (by repeat (first | with_reducible assumption | with_reducible apply Box.set10 | with_reducible apply Box.set20 | with_reducible apply Box.set21 | with_reducible apply Box.set40 | with_reducible apply Box.set41 | with_reducible apply Box.set42 | with_reducible apply Box.set43 | with_reducible apply Box.set50 | with_reducible apply Box.set51 | with_reducible apply Box.set52 | with_reducible apply Box.set53 | with_reducible apply Box.set54 | with_reducible apply Box.drew | (with_reducible apply Box.newAt; (try simp only [World.size_alloc, World.size_setCell, World.size_drew]); done) | with_reducible apply Box.alloc | (with_reducible apply Box.other; case hne => ((try simp only [World.size_alloc, World.size_setCell, World.size_drew]); omega))))
  have N1' : IsN w5 vN1 (D) := (IsN.kept N1 (by repeat (first | with_reducible exact Kept.refl _ | with_reducible refine Kept.alloc ?_ _ | with_reducible refine Kept.drew ?_ | with_reducible refine Kept.setCell ?_ (by simp only [World.size_alloc, World.size_setCell, World.size_drew]; omega) _))).call hb
  have N3' : IsN w5 vN3 (S) := (IsN.kept N3 (by repeat (first | with_reducible exact Kept.refl _ | with_reducible refine Kept.alloc ?_ _ | with_reducible refine Kept.drew ?_ | with_reducible refine Kept.setCell ?_ (by simp only [World.size_alloc, World.size_setCell, World.size_drew]; omega) _))).call hb
  have hk' : Kept w.heap.size w w5 := Kept.step (by repeat (first | with_reducible exact hk | with_reducible exact Kept.refl _ | with_reducible refine Kept.alloc ?_ _ | with_reducible refine Kept.drew ?_ | with_reducible refine Kept.setCell ?_ (by simp only [World.size_alloc, World.size_setCell, World.size_drew]; omega) _)) hb
  clear hk hb
  clear X3 X3l1 X3l2 X3l3 X3f X30 X31
  have X3 := X3'
  clear X3'
  clear N1
  have N1 := N1'
  clear N1'
  clear N3
  have N3 := N3'
  clear N3'
  have hk := hk'
  clear hk'
  have hz_w5 := hk.size
  have X3l := X3.lt
  have X3f := X3.free
  have X3l1 : w.heap.size + 1 + 1 < w5.heap.size + 1 := by omega
  have X3l2 : w.heap.size + 1 + 1 < w5.heap.size + 1 + 1 := by omega
  have X3l3 : w.heap.size + 1 + 1 < w5.heap.size + 1 + 1 + 1 := by omega
  have X30 := X3.cell 0 _ rfl
  have X31 := X3.cell 1 _ rfl
  have N4 : IsN w5 vN4 (Q) := N4_
  clear N4_
  have N5 : IsN w5 vN5 (T) := N5_
  clear N5_
  clear N1
  clear N3
  go_wp2_with fail
  (with_reducible refine (Bits_eq rfl _ (IsN.kept N5 (by repeat (first | with_reducible exact Kept.refl _ | with_reducible refine Kept.alloc ?_ _ | with_reducible refine Kept.drew ?_ | with_reducible refine Kept.setCell ?_ (by simp only [World.size_alloc, World.size_setCell, World.size_drew]; omega) _))) (by omega)).mono ?_)
  rintro e w6 ⟨rfl, hb⟩
  have X3' : Box w6 (w.heap.size + 1 + 1) #[.int .u64 0, .int .u64 0] := Box.call hb (by repeat (first | with_reducible assumption | with_reducible apply Box.set10 | with_reducible apply Box.set20 | with_reducible apply Box.set21 | with_reducible apply Box.set40 | with_reducible apply Box.set41 | with_reducible apply Box.set42 | with_reducible apply Box.set43 | with_reducible apply Box.set50 | with_reducible apply Box.set51 | with_reducible apply Box.set52 | with_reducible apply Box.set53 | with_reducible apply Box.set54 | with_reducible apply Box.drew | (with_reducible apply Box.newAt; (try simp only [World.size_alloc, World.size_setCell, World.size_drew]); done) | with_reducible apply Box.alloc | (with_reducible apply Box.other; case hne => ((try simp only [World.size_alloc, World.size_setCell, World.size_drew]); omega))))
  have N4' : IsN w6 vN4 (Q) := (IsN.kept N4 (by repeat (first | with_reducible exact Kept.refl _ | with_reducible refine Kept.alloc ?_ _ | with_reducible refine Kept.drew ?_ | with_reducible refine Kept.setCell ?_ (by simp only [World.size_alloc, World.size_setCell, World.size_drew]; omega) _))).call hb
  have N5' : IsN w6 vN5 (T) := (IsN.kept N5 (by repeat (first | with_reducible exact Kept.refl _ | with_reducible refine Kept.alloc ?_ _ | with_reducible refine Kept.drew ?_ | with_reducible refine Kept.setCell ?_ (by simp only [World.size_alloc, World.size_setCell, World.size_drew]; omega) _))).call hb
  have hk' : Kept w.heap.size w w6 := Kept.step (by repeat (first | with_reducible exact hk | with_reducible exact Kept.refl _ | with_reducible refine Kept.alloc ?_ _ | with_reducible refine Kept.drew ?_ | with_reducible refine Kept.setCell ?_ (by simp only [World.size_alloc, World.size_setCell, World.size_drew]; omega) _)) hb
  clear hk hb
  clear X3 X3l1 X3l2 X3l3 X3f X30 X31
  have X3 := X3'
  clear X3'
  clear N4
  have N4 := N4'
  clear N4'
  clear N5
  have N5 := N5'
  clear N5'
  have hk := hk'
  clear hk'
  have hz_w6 := hk.size
  have X3l := X3.lt
  have X3f := X3.free
  have X3l1 : w.heap.size + 1 + 1 < w6.heap.size + 1 := by omega
  have X3l2 : w.heap.size + 1 + 1 < w6.heap.size + 1 + 1 := by omega
  have X3l3 : w.heap.size + 1 + 1 < w6.heap.size + 1 + 1 + 1 := by omega
  have X30 := X3.cell 0 _ rfl
  have X31 := X3.cell 1 _ rfl
  clear N5
  go_wp2_with fail
  (with_reducible refine (refBit_w 0 (by omega) (IsN.kept N4 (by repeat (first | with_reducible exact Kept.refl _ | with_reducible refine Kept.alloc ?_ _ | with_reducible refine Kept.drew ?_ | with_reducible refine Kept.setCell ?_ (by simp only [World.size_alloc, World.size_setCell, World.size_drew]; omega) _))) (by omega)).mono ?_)
  rintro e w7 ⟨rfl, hb⟩
  have X3' : Box w7 (w.heap.size + 1 + 1) #[.int .u64 0, .int .u64 0] := Box.call hb (by repeat (first | with_reducible assumption | with_reducible apply Box.set10 | with_reducible apply Box.set20 | with_reducible apply Box.set21 | with_reducible apply Box.set40 | with_reducible apply Box.set41 | with_reducible apply Box.set42 | with_reducible apply Box.set43 | with_reducible apply Box.set50 | with_reducible apply Box.set51 | with_reducible apply Box.set52 | with_reducible apply Box.set53 | with_reducible apply Box.set54 | with_reducible apply Box.drew | (with_reducible apply Box.newAt; (try simp only [World.size_alloc, World.size_setCell, World.size_drew]); done) | with_reducible apply Box.alloc | (with_reducible apply Box.other; case hne => ((try simp only [World.size_alloc, World.size_setCell, World.size_drew]); omega))))
  have N4' : IsN w7 vN4 (Q) := (IsN.kept N4 (by repeat (first | with_reducible exact Kept.refl _ | with_reducible refine Kept.alloc ?_ _ | with_reducible refine Kept.drew ?_ | with_reducible refine Kept.setCell ?_ (by simp only [World.size_alloc, World.size_setCell, World.size_drew]; omega) _))).call hb
  have hk' : Kept w.heap.size w w7 := Kept.step (by repeat (first | with_reducible exact hk | with_reducible exact Kept.refl _ | with_reducible refine Kept.alloc ?_ _ | with_reducible refine Kept.drew ?_ | with_reducible refine Kept.setCell ?_ (by simp only [World.size_alloc, World.size_setCell, World.size_drew]; omega) _)) hb
  clear hk hb
  clear X3 X3l1 X3l2 X3l3 X3f X30 X31
  have X3 := X3'
  clear X3'
  clear N4
  have N4 := N4'
  clear N4'
  have hk := hk'
  clear hk'
  have hz_w7 := hk.size
  have X3l := X3.lt
  have X3f := X3.free
  have X3l1 : w.heap.size + 1 + 1 < w7.heap.size + 1 := by omega
  have X3l2 : w.heap.size + 1 + 1 < w7.heap.size + 1 + 1 := by omega
  have X3l3 : w.heap.size + 1 + 1 < w7.heap.size + 1 + 1 + 1 := by omega
  have X30 := X3.cell 0 _ rfl
  have X31 := X3.cell 1 _ rfl
  go_wp2
  refine bodyPost_ret (v := .tuple #[bitsV T, .bool (bitZ Q 0), .bool true]) (by simp [results, Try.results39, go_sem, X30, X31]) rfl ⟨rfl, ?_⟩
  refine Kept.below ?_; repeat (first | with_reducible exact hk | with_reducible exact Kept.refl _ | with_reducible refine Kept.alloc ?_ _ | with_reducible refine Kept.drew ?_ | with_reducible refine Kept.setCell ?_ (by simp only [World.size_alloc, World.size_setCell, World.size_drew]; omega) _)

set_option maxRecDepth 100000 in
set_option maxHeartbeats 8000000 in
theorem ref05Mod_no1 {A D : Nat} {z : Int} (hA : W128 A) (hDw : W128 D) (hAD : D ≤ A) (w : World) :
    Calls Try.prog 39 #[bitsV A, .int .i64 z, bitsV D] w fun e w' => e = .returned (.tuple #[.agg #[.int .u64 0, .int .u64 0], .bool false, .bool false]) ∧ Below w.heap.size w w' := by
  have hk := Kept.refl w
  have la := len128 hA; have ld := len128 hDw
  have c1 : cmpN A D ≥ 0 := by have := @cmp_neg A D; omega
  go_enter Try.func39, Try.ntmps39
  go_wp2_with fail
  (with_reducible refine (Big_any (IsBits.of hDw).w _).mono ?_)
  rintro e w1 ⟨vN1, rfl, N1_, hb⟩
  have X1' : Box w1 (w.heap.size) #[.int .u64 (limb 1 A), .int .u64 (limb 0 A)] := Box.call hb (by repeat (first | with_reducible assumption | with_reducible apply Box.set10 | with_reducible apply Box.set20 | with_reducible apply Box.set21 | with_reducible apply Box.set40 | with_reducible apply Box.set41 | with_reducible apply Box.set42 | with_reducible apply Box.set43 | with_reducible apply Box.set50 | with_reducible apply Box.set51 | with_reducible apply Box.set52 | with_reducible apply Box.set53 | with_reducible apply Box.set54 | with_reducible apply Box.drew | (with_reducible apply Box.newAt; (try simp only [World.size_alloc, World.size_setCell, World.size_drew]); done) | with_reducible apply Box.alloc | (with_reducible apply Box.other; case hne => ((try simp only [World.size_alloc, World.size_setCell, World.size_drew]); omega))))
  have X3' : Box w1 (w.heap.size + 1 + 1) #[.int .u64 0, .int .u64 0] := Box.call hb (by repeat (first | with_reducible assumption | with_reducible apply Box.set10 | with_reducible apply Box.set20 | with_reducible apply Box.set21 | with_reducible apply Box.set40 | with_reducible apply Box.set41 | with_reducible apply Box.set42 | with_reducible apply Box.set43 | with_reducible apply Box.set50 | with_reducible apply Box.set51 | with_reducible apply Box.set52 | with_reducible apply Box.set53 | with_reducible apply Box.set54 | with_reducible apply Box.drew | (with_reducible apply Box.newAt; (try simp only [World.size_alloc, World.size_setCell, World.size_drew]); done) | with_reducible apply Box.alloc | (with_reducible apply Box.other; case hne => ((try simp only [World.size_alloc, World.size_setCell, World.size_drew]); omega))))
  have hk' : Kept w.heap.size w w1 := Kept.step (by repeat (first | with_reducible exact hk | with_reducible exact Kept.refl _ | with_reducible refine Kept.alloc ?_ _ | with_reducible refine Kept.drew ?_ | with_reducible refine Kept.setCell ?_ (by simp only [World.size_alloc, World.size_setCell, World.size_drew]; omega) _)) hb
  clear hk hb
  have X1 := X1'
  clear X1'
  have X3 := X3'
  clear X3'
  have hk := hk'
  clear hk'
  have hz_w1 := hk.size
  have X1l := X1.lt
  have X1f := X1.free
  have X1l1 : w.heap.size < w1.heap.size + 1 := by omega
  have X1l2 : w.heap.size < w1.heap.size + 1 + 1 := by omega
  have X1l3 : w.heap.size < w1.heap.size + 1 + 1 + 1 := by omega
  have X10 := X1.cell 0 _ rfl
  have X11 := X1.cell 1 _ rfl
  have X3l := X3.lt
  have X3f := X3.free
  have X3l1 : w.heap.size + 1 + 1 < w1.heap.size + 1 := by omega
  have X3l2 : w.heap.size + 1 + 1 < w1.heap.size + 1 + 1 := by omega
  have X3l3 : w.heap.size + 1 + 1 < w1.heap.size + 1 + 1 + 1 := by omega
  have X30 := X3.cell 0 _ rfl
  have X31 := X3.cell 1 _ rfl
  have N1 : IsN w1 vN1 (D) := N1_
  clear N1_
  go_wp2_with fail
  (with_reducible refine (Big_any (IsBits.of hA).w _).mono ?_)
  rintro e w2 ⟨vN2, rfl, N2_, hb⟩
  have X3' : Box w2 (w.heap.size + 1 + 1) #[.int .u64 0, .int .u64 0] := Box.call hb (by repeat (first | with_reducible assumption | with_reducible apply Box.set10 | with_reducible apply Box.set20 | with_reducible apply Box.set21 | with_reducible apply Box.set40 | with_reducible apply Box.set41 | with_reducible apply Box.set42 | with_reducible apply Box.set43 | with_reducible apply Box.set50 | with_reducible apply Box.set51 | with_reducible apply Box.set52 | with_reducible apply Box.set53 | with_reducible apply Box.set54 | with_reducible apply Box.drew | (with_reducible apply Box.newAt; (try simp only [World.size_alloc, World.size_setCell, World.size_drew]); done) | with_reducible apply Box.alloc | (with_reducible apply Box.other; case hne => ((try simp only [World.size_alloc, World.size_setCell, World.size_drew]); omega))))
  have N1' : IsN w2 vN1 (D) := (IsN.kept N1 (by repeat (first | with_reducible exact Kept.refl _ | with_reducible refine Kept.alloc ?_ _ | with_reducible refine Kept.drew ?_ | with_reducible refine Kept.setCell ?_ (by simp only [World.size_alloc, World.size_setCell, World.size_drew]; omega) _))).call hb
  have hk' : Kept w.heap.size w w2 := Kept.step (by repeat (first | with_reducible exact hk | with_reducible exact Kept.refl _ | with_reducible refine Kept.alloc ?_ _ | with_reducible refine Kept.drew ?_ | with_reducible refine Kept.setCell ?_ (by simp only [World.size_alloc, World.size_setCell, World.size_drew]; omega) _)) hb
  clear hk hb
  clear X1 X1l1 X1l2 X1l3 X1f X10 X11
  clear X3 X3l1 X3l2 X3l3 X3f X30 X31
  have X3 := X3'
  clear X3'
  clear N1
  have N1 := N1'
  clear N1'
  have hk := hk'
  clear hk'
  have hz_w2 := hk.size
  have X3l := X3.lt
  have X3f := X3.free
  have X3l1 : w.heap.size + 1 + 1 < w2.heap.size + 1 := by omega
  have X3l2 : w.heap.size + 1 + 1 < w2.heap.size + 1 + 1 := by omega
  have X3l3 : w.heap.size + 1 + 1 < w2.heap.size + 1 + 1 + 1 := by omega
  have X30 := X3.cell 0 _ rfl
  have X31 := X3.cell 1 _ rfl
  have N2 : IsN w2 vN2 (A) := N2_
  clear N2_
  go_wp2_with fail
  (with_reducible refine (refCmp_any _ (IsN.kept N2 (by repeat (first | with_reducible exact Kept.refl _ | with_reducible refine Kept.alloc ?_ _ | with_reducible refine Kept.drew ?_ | with_reducible refine Kept.setCell ?_ (by simp only [World.size_alloc, World.size_setCell, World.size_drew]; omega) _))) (IsN.kept N1 (by repeat (first | with_reducible exact Kept.refl _ | with_reducible refine Kept.alloc ?_ _ | with_reducible refine Kept.drew ?_ | with_reducible refine Kept.setCell ?_ (by simp only [World.size_alloc, World.size_setCell, World.size_drew]; omega) _))) (by omega) (by omega)).mono ?_)
  rintro e w3 ⟨rfl, hb⟩
  have X3' : Box w3 (w.heap.size + 1 + 1) #[.int .u64 0, .int .u64 0] := Box.call hb (by repeat (first | with_reducible assumption | with_reducible apply Box.set10 | with_reducible apply Box.set20 | with_reducible apply Box.set21 | with_reducible apply Box.set40 | with_reducible apply Box.set41 | with_reducible apply Box.set42 | with_reducible apply Box.set43 | with_reducible apply Box.set50 | with_reducible apply Box.set51 | with_reducible apply Box.set52 | with_reducible apply Box.set53 | with_reducible apply Box.set54 | with_reducible apply Box.drew | (with_reducible apply Box.newAt; (try simp only [World.size_alloc, World.size_setCell, World.size_drew]); done) | with_reducible apply Box.alloc | (with_reducible apply Box.other; case hne => ((try simp only [World.size_alloc, World.size_setCell, World.size_drew]); omega))))
  have N1' : IsN w3 vN1 (D) := (IsN.kept N1 (by repeat (first | with_reducible exact Kept.refl _ | with_reducible refine Kept.alloc ?_ _ | with_reducible refine Kept.drew ?_ | with_reducible refine Kept.setCell ?_ (by simp only [World.size_alloc, World.size_setCell, World.size_drew]; omega) _))).call hb
  have N2' : IsN w3 vN2 (A) := (IsN.kept N2 (by repeat (first | with_reducible exact Kept.refl _ | with_reducible refine Kept.alloc ?_ _ | with_reducible refine Kept.drew ?_ | with_reducible refine Kept.setCell ?_ (by simp only [World.size_alloc, World.size_setCell, World.size_drew]; omega) _))).call hb
  have hk' : Kept w.heap.size w w3 := Kept.step (by repeat (first | with_reducible exact hk | with_reducible exact Kept.refl _ | with_reducible refine Kept.alloc ?_ _ | with_reducible refine Kept.drew ?_ | with_reducible refine Kept.setCell ?_ (by simp only [World.size_alloc, World.size_setCell, World.size_drew]; omega) _)) hb
  clear hk hb
  clear X3 X3l1 X3l2 X3l3 X3f X30 X31
  have X3 := X3'
  clear X3'
  clear N1
  have N1 := N1'
  clear N1'
  clear N2
  have N2 := N2'
  clear N2'
  have hk := hk'
  clear hk'
  have hz_w3 := hk.size
  have X3l := X3.lt
  have X3f := X3.free
  have X3l1 : w.heap.size + 1 + 1 < w3.heap.size + 1 := by omega
  have X3l2 : w.heap.size + 1 + 1 < w3.heap.size + 1 + 1 := by omega
  have X3l3 : w.heap.size + 1 + 1 < w3.heap.size + 1 + 1 + 1 := by omega
  have X30 := X3.cell 0 _ rfl
  have X31 := X3.cell 1 _ rfl
  go_wp2
  refine bodyPost_ret (v := .tuple #[.agg #[.int .u64 0, .int .u64 0], .bool false, .bool false]) (by simp [results, Try.results39, go_sem, X30, X31]) rfl ⟨rfl, ?_⟩
  refine Kept.below ?_; repeat (first | with_reducible exact hk | with_reducible exact Kept.refl _ | with_reducible refine Kept.alloc ?_ _ | with_reducible refine Kept.drew ?_ | with_reducible refine Kept.setCell ?_ (by simp only [World.size_alloc, World.size_setCell, World.size_drew]; omega) _)

set_option maxRecDepth 100000 in
set_option maxHeartbeats 8000000 in
theorem ref05Mod_no2 {A D : Nat} {z : Int} (hA : W128 A) (hDw : W128 D) (hAD : A < D) (hz : z < 0) (w : World) :
    Calls Try.prog 39 #[bitsV A, .int .i64 z, bitsV D] w fun e w' => e = .returned (.tuple #[.agg #[.int .u64 0, .int .u64 0], .bool false, .bool false]) ∧ Below w.heap.size w w' := by
  have hk := Kept.refl w
  have la := len128 hA; have ld := len128 hDw
  have c1 : cmpN A D < 0 := by rw [cmp_neg]; omega
  go_enter Try.func39, Try.ntmps39
  go_wp2_with fail
  (with_reducible refine (Big_any (IsBits.of hDw).w _).mono ?_)
  rintro e w1 ⟨vN1, rfl, N1_, hb⟩
  have X1' : Box w1 (w.heap.size) #[.int .u64 (limb 1 A), .int .u64 (limb 0 A)] := Box.call hb (by repeat (first | with_reducible assumption | with_reducible apply Box.set10 | with_reducible apply Box.set20 | with_reducible apply Box.set21 | with_reducible apply Box.set40 | with_reducible apply Box.set41 | with_reducible apply Box.set42 | with_reducible apply Box.set43 | with_reducible apply Box.set50 | with_reducible apply Box.set51 | with_reducible apply Box.set52 | with_reducible apply Box.set53 | with_reducible apply Box.set54 | with_reducible apply Box.drew | (with_reducible apply Box.newAt; (try simp only [World.size_alloc, World.size_setCell, World.size_drew]); done) | with_reducible apply Box.alloc | (with_reducible apply Box.other; case hne => ((try simp only [World.size_alloc, World.size_setCell, World.size_drew]); omega))))
  have X3' : Box w1 (w.heap.size + 1 + 1) #[.int .u64 0, .int .u64 0] := Box.call hb (by repeat (first | with_reducible assumption | with_reducible apply Box.set10 | with_reducible apply Box.set20 | with_reducible apply Box.set21 | with_reducible apply Box.set40 | with_reducible apply Box.set41 | with_reducible apply Box.set42 | with_reducible apply Box.set43 | with_reducible apply Box.set50 | with_reducible apply Box.set51 | with_reducible apply Box.set52 | with_reducible apply Box.set53 | with_reducible apply Box.set54 | with_reducible apply Box.drew | (with_reducible apply Box.newAt; (try simp only [World.size_alloc, World.size_setCell, World.size_drew]); done) | with_reducible apply Box.alloc | (with_reducible apply Box.other; case hne => ((try simp only [World.size_alloc, World.size_setCell, World.size_drew]); omega))))
  have hk' : Kept w.heap.size w w1 := Kept.step (by repeat (first | with_reducible exact hk | with_reducible exact Kept.refl _ | with_reducible refine Kept.alloc ?_ _ | with_reducible refine Kept.drew ?_ | with_reducible refine Kept.setCell ?_ (by simp only [World.size_alloc, World.size_setCell, World.size_drew]; omega) _)) hb
  clear hk hb
  have X1 := X1'
  clear X1'
  have X3 := X3'
  clear X3'
  have hk := hk'
  clear hk'
  have hz_w1 := hk.size
  have X1l := X1.lt
  have X1f := X1.free
  have X1l1 : w.heap.size < w1.heap.size + 1 := by omega
  have X1l2 : w.heap.size < w1.heap.size + 1 + 1 := by omega
  have X1l3 : w.heap.size < w1.heap.size + 1 + 1 + 1 := by omega
  have X10 := X1.cell 0 _ rfl
  have X11 := X1.cell 1 _ rfl
  have X3l := X3.lt
  have X3f := X3.free
  have X3l1 : w.heap.size + 1 + 1 < w1.heap.size + 1 := by omega
  have X3l2 : w.heap.size + 1 + 1 < w1.heap.size + 1 + 1 := by omega
  have X3l3 : w.heap.size + 1 + 1 < w1.heap.size + 1 + 1 + 1 := by omega
  have X30 := X3.cell 0 _ rfl
  have X31 := X3.cell 1 _ rfl
  have N1 : IsN w1 vN1 (D) := N1_
  clear N1_
  go_wp2_with fail
  (with_reducible refine (Big_any (IsBits.of hA).w _).mono ?_)
  rintro e w2 ⟨vN2, rfl, N2_, hb⟩
  have X3' : Box w2 (w.heap.size + 1 + 1) #[.int .u64 0, .int .u64 0] := Box.call hb (by repeat (first | with_reducible assumption | with_reducible apply Box.set10 | with_reducible apply Box.set20 | with_reducible apply Box.set21 | with_reducible apply Box.set40 | with_reducible apply Box.set41 | with_reducible apply Box.set42 | with_reducible apply Box.set43 | with_reducible apply Box.set50 | with_reducible apply Box.set51 | with_reducible apply Box.set52 | with_reducible apply Box.set53 | with_reducible apply Box.set54 | with_reducible apply Box.drew | (with_reducible apply Box.newAt; (try simp only [World.size_alloc, World.size_setCell, World.size_drew]); done) | with_reducible apply Box.alloc | (with_reducible apply Box.other; case hne => ((try simp only [World.size_alloc, World.size_setCell, World.size_drew]); omega))))
  have N1' : IsN w2 vN1 (D) := (IsN.kept N1 (by repeat (first | with_reducible exact Kept.refl _ | with_reducible refine Kept.alloc ?_ _ | with_reducible refine Kept.drew ?_ | with_reducible refine Kept.setCell ?_ (by simp only [World.size_alloc, World.size_setCell, World.size_drew]; omega) _))).call hb
  have hk' : Kept w.heap.size w w2 := Kept.step (by repeat (first | with_reducible exact hk | with_reducible exact Kept.refl _ | with_reducible refine Kept.alloc ?_ _ | with_reducible refine Kept.drew ?_ | with_reducible refine Kept.setCell ?_ (by simp only [World.size_alloc, World.size_setCell, World.size_drew]; omega) _)) hb
  clear hk hb
  clear X1 X1l1 X1l2 X1l3 X1f X10 X11
  clear X3 X3l1 X3l2 X3l3 X3f X30 X31
  have X3 := X3'
  clear X3'
  clear N1
  have N1 := N1'
  clear N1'
  have hk := hk'
  clear hk'
  have hz_w2 := hk.size
  have X3l := X3.lt
  have X3f := X3.free
  have X3l1 : w.heap.size + 1 + 1 < w2.heap.size + 1 := by omega
  have X3l2 : w.heap.size + 1 + 1 < w2.heap.size + 1 + 1 := by omega
  have X3l3 : w.heap.size + 1 + 1 < w2.heap.size + 1 + 1 + 1 := by omega
  have X30 := X3.cell 0 _ rfl
  have X31 := X3.cell 1 _ rfl
  have N2 : IsN w2 vN2 (A) := N2_
  clear N2_
  go_wp2_with fail
  (with_reducible refine (refCmp_any _ (IsN.kept N2 (by repeat (first | with_reducible exact Kept.refl _ | with_reducible refine Kept.alloc ?_ _ | with_reducible refine Kept.drew ?_ | with_reducible refine Kept.setCell ?_ (by simp only [World.size_alloc, World.size_setCell, World.size_drew]; omega) _))) (IsN.kept N1 (by repeat (first | with_reducible exact Kept.refl _ | with_reducible refine Kept.alloc ?_ _ | with_reducible refine Kept.drew ?_ | with_reducible refine Kept.setCell ?_ (by simp only [World.size_alloc, World.size_setCell, World.size_drew]; omega) _))) (by omega) (by omega)).mono ?_)
  rintro e w3 ⟨rfl, hb⟩
  have X3' : Box w3 (w.heap.size + 1 + 1) #[.int .u64 0, .int .u64 0] := Box.call hb (by repeat (first | with_reducible assumption | with_reducible apply Box.set10 | with_reducible apply Box.set20 | with_reducible apply Box.set21 | with_reducible apply Box.set40 | with_reducible apply Box.set41 | with_reducible apply Box.set42 | with_reducible apply Box.set43 | with_reducible apply Box.set50 | with_reducible apply Box.set51 | with_reducible apply Box.set52 | with_reducible apply Box.set53 | with_reducible apply Box.set54 | with_reducible apply Box.drew | (with_reducible apply Box.newAt; (try simp only [World.size_alloc, World.size_setCell, World.size_drew]); done) | with_reducible apply Box.alloc | (with_reducible apply Box.other; case hne => ((try simp only [World.size_alloc, World.size_setCell, World.size_drew]); omega))))
  have N1' : IsN w3 vN1 (D) := (IsN.kept N1 (by repeat (first | with_reducible exact Kept.refl _ | with_reducible refine Kept.alloc ?_ _ | with_reducible refine Kept.drew ?_ | with_reducible refine Kept.setCell ?_ (by simp only [World.size_alloc, World.size_setCell, World.size_drew]; omega) _))).call hb
  have N2' : IsN w3 vN2 (A) := (IsN.kept N2 (by repeat (first | with_reducible exact Kept.refl _ | with_reducible refine Kept.alloc ?_ _ | with_reducible refine Kept.drew ?_ | with_reducible refine Kept.setCell ?_ (by simp only [World.size_alloc, World.size_setCell, World.size_drew]; omega) _))).call hb
  have hk' : Kept w.heap.size w w3 := Kept.step (by repeat (first | with_reducible exact hk | with_reducible exact Kept.refl _ | with_reducible refine Kept.alloc ?_ _ | with_reducible refine Kept.drew ?_ | with_reducible refine Kept.setCell ?_ (by simp only [World.size_alloc, World.size_setCell, World.size_drew]; omega) _)) hb
  clear hk hb
  clear X3 X3l1 X3l2 X3l3 X3f X30 X31
  have X3 := X3'
  clear X3'
  clear N1
  have N1 := N1'
  clear N1'
  clear N2
  have N2 := N2'
  clear N2'
  have hk := hk'
  clear hk'
  have hz_w3 := hk.size
  have X3l := X3.lt
  have X3f := X3.free
  have X3l1 : w.heap.size + 1 + 1 < w3.heap.size + 1 := by omega
  have X3l2 : w.heap.size + 1 + 1 < w3.heap.size + 1 + 1 := by omega
  have X3l3 : w.heap.size + 1 + 1 < w3.heap.size + 1 + 1 + 1 := by omega
  have X30 := X3.cell 0 _ rfl
  have X31 := X3.cell 1 _ rfl
  go_wp2
  refine bodyPost_ret (v := .tuple #[.agg #[.int .u64 0, .int .u64 0], .bool false, .bool false]) (by simp [results, Try.results39, go_sem, X30, X31]) rfl ⟨rfl, ?_⟩
  refine Kept.below ?_; repeat (first | with_reducible exact hk | with_reducible exact Kept.refl _ | with_reducible refine Kept.alloc ?_ _ | with_reducible refine Kept.drew ?_ | with_reducible refine Kept.setCell ?_ (by simp only [World.size_alloc, World.size_setCell, World.size_drew]; omega) _)

set_option maxRecDepth 100000 in
set_option maxHeartbeats 8000000 in
theorem ref05Mod_no3 {A D : Nat} {z : Int} (hA : W128 A) (hDw : W128 D) (hAD : A < D) (hz : 40000 < z) (w : World) :
    Calls Try.prog 39 #[bitsV A, .int .i64 z, bitsV D] w fun e w' => e = .returned (.tuple #[.agg #[.int .u64 0, .int .u64 0], .bool false, .bool false]) ∧ Below w.heap.size w w' := by
  have hk := Kept.refl w
  have la := len128 hA; have ld := len128 hDw
  have c1 : cmpN A D < 0 := by rw [cmp_neg]; omega
  have c2 : ¬ z < 0 := by omega
  have c4 : 0 ≤ z := by omega
  go_enter Try.func39, Try.ntmps39
  go_wp2_with fail
  (with_reducible refine (Big_any (IsBits.of hDw).w _).mono ?_)
  rintro e w1 ⟨vN1, rfl, N1_, hb⟩
  have X1' : Box w1 (w.heap.size) #[.int .u64 (limb 1 A), .int .u64 (limb 0 A)] := Box.call hb (by repeat (first | with_reducible assumption | with_reducible apply Box.set10 | with_reducible apply Box.set20 | with_reducible apply Box.set21 | with_reducible apply Box.set40 | with_reducible apply Box.set41 | with_reducible apply Box.set42 | with_reducible apply Box.set43 | with_reducible apply Box.set50 | with_reducible apply Box.set51 | with_reducible apply Box.set52 | with_reducible apply Box.set53 | with_reducible apply Box.set54 | with_reducible apply Box.drew | (with_reducible apply Box.newAt; (try simp only [World.size_alloc, World.size_setCell, World.size_drew]); done) | with_reducible apply Box.alloc | (with_reducible apply Box.other; case hne => ((try simp only [World.size_alloc, World.size_setCell, World.size_drew]); omega))))
  have X3' : Box w1 (w.heap.size + 1 + 1) #[.int .u64 0, .int .u64 0] := Box.call hb (by repeat (first | with_reducible assumption | with_reducible apply Box.set10 | with_reducible apply Box.set20 | with_reducible apply Box.set21 | with_reducible apply Box.set40 | with_reducible apply Box.set41 | with_reducible apply Box.set42 | with_reducible apply Box.set43 | with_reducible apply Box.set50 | with_reducible apply Box.set51 | with_reducible apply Box.set52 | with_reducible apply Box.set53 | with_reducible apply Box.set54 | with_reducible apply Box.drew | (with_reducible apply Box.newAt; (try simp only [World.size_alloc, World.size_setCell, World.size_drew]); done) | with_reducible apply Box.alloc | (with_reducible apply Box.other; case hne => ((try simp only [World.size_alloc, World.size_setCell, World.size_drew]); omega))))
  have hk' : Kept w.heap.size w w1 := Kept.step (by repeat (first | with_reducible exact hk | with_reducible exact Kept.refl _ | with_reducible refine Kept.alloc ?_ _ | with_reducible refine Kept.drew ?_ | with_reducible refine Kept.setCell ?_ (by simp only [World.size_alloc, World.size_setCell, World.size_drew]; omega) _)) hb
  clear hk hb
  have X1 := X1'
  clear X1'
  have X3 := X3'
  clear X3'
  have hk := hk'
  clear hk'
  have hz_w1 := hk.size
  have X1l := X1.lt
  have X1f := X1.free
  have X1l1 : w.heap.size < w1.heap.size + 1 := by omega
  have X1l2 : w.heap.size < w1.heap.size + 1 + 1 := by omega
  have X1l3 : w.heap.size < w1.heap.size + 1 + 1 + 1 := by omega
  have X10 := X1.cell 0 _ rfl
  have X11 := X1.cell 1 _ rfl
  have X3l := X3.lt
  have X3f := X3.free
  have X3l1 : w.heap.size + 1 + 1 < w1.heap.size + 1 := by omega
  have X3l2 : w.heap.size + 1 + 1 < w1.heap.size + 1 + 1 := by omega
  have X3l3 : w.heap.size + 1 + 1 < w1.heap.size + 1 + 1 + 1 := by omega
  have X30 := X3.cell 0 _ rfl
  have X31 := X3.cell 1 _ rfl
  have N1 : IsN w1 vN1 (D) := N1_
  clear N1_
  go_wp2_with fail
  (with_reducible refine (Big_any (IsBits.of hA).w _).mono ?_)
  rintro e w2 ⟨vN2, rfl, N2_, hb⟩
  have X3' : Box w2 (w.heap.size + 1 + 1) #[.int .u64 0, .int .u64 0] := Box.call hb (by repeat (first | with_reducible assumption | with_reducible apply Box.set10 | with_reducible apply Box.set20 | with_reducible apply Box.set21 | with_reducible apply Box.set40 | with_reducible apply Box.set41 | with_reducible apply Box.set42 | with_reducible apply Box.set43 | with_reducible apply Box.set50 | with_reducible apply Box.set51 | with_reducible apply Box.set52 | with_reducible apply Box.set53 | with_reducible apply Box.set54 | with_reducible apply Box.drew | (with_reducible apply Box.newAt; (try simp only [World.size_alloc, World.size_setCell, World.size_drew]); done) | with_reducible apply Box.alloc | (with_reducible apply Box.other; case hne => ((try simp only [World.size_alloc, World.size_setCell, World.size_drew]); omega))))
  have N1' : IsN w2 vN1 (D) := (IsN.kept N1 (by repeat (first | with_reducible exact Kept.refl _ | with_reducible refine Kept.alloc ?_ _ | with_reducible refine Kept.drew ?_ | with_reducible refine Kept.setCell ?_ (by simp only [World.size_alloc, World.size_setCell, World.size_drew]; omega) _))).call hb
  have hk' : Kept w.heap.size w w2 := Kept.step (by repeat (first | with_reducible exact hk | with_reducible exact Kept.refl _ | with_reducible refine Kept.alloc ?_ _ | with_reducible refine Kept.drew ?_ | with_reducible refine Kept.setCell ?_ (by simp only [World.size_alloc, World.size_setCell, World.size_drew]; omega) _)) hb
  clear hk hb
  clear X1 X1l1 X1l2 X1l3 X1f X10 X11
  clear X3 X3l1 X3l2 X3l3 X3f X30 X31
  have X3 := X3'
  clear X3'
  clear N1
  have N1 := N1'
  clear N1'
  have hk := hk'
  clear hk'
  have hz_w2 := hk.size
  have X3l := X3.lt
  have X3f := X3.free
  have X3l1 : w.heap.size + 1 + 1 < w2.heap.size + 1 := by omega
  have X3l2 : w.heap.size + 1 + 1 < w2.heap.size + 1 + 1 := by omega
  have X3l3 : w.heap.size + 1 + 1 < w2.heap.size + 1 + 1 + 1 := by omega
  have X30 := X3.cell 0 _ rfl
  have X31 := X3.cell 1 _ rfl
  have N2 : IsN w2 vN2 (A) := N2_
  clear N2_
  go_wp2_with fail
  (with_reducible refine (refCmp_any _ (IsN.kept N2 (by repeat (first | with_reducible exact Kept.refl _ | with_reducible refine Kept.alloc ?_ _ | with_reducible refine Kept.drew ?_ | with_reducible refine Kept.setCell ?_ (by simp only [World.size_alloc, World.size_setCell, World.size_drew]; omega) _))) (IsN.kept N1 (by repeat (first | with_reducible exact Kept.refl _ | with_reducible refine Kept.alloc ?_ _ | with_reducible refine Kept.drew ?_ | with_reducible refine Kept.setCell ?_ (by simp only [World.size_alloc, World.size_setCell, World.size_drew]; omega) _))) (by omega) (by omega)).mono ?_)
  rintro e w3 ⟨rfl, hb⟩
  have X3' : Box w3 (w.heap.size + 1 + 1) #[.int .u64 0, .int .u64 0] := Box.call hb (by repeat (first | with_reducible assumption | with_reducible apply Box.set10 | with_reducible apply Box.set20 | with_reducible apply Box.set21 | with_reducible apply Box.set40 | with_reducible apply Box.set41 | with_reducible apply Box.set42 | with_reducible apply Box.set43 | with_reducible apply Box.set50 | with_reducible apply Box.set51 | with_reducible apply Box.set52 | with_reducible apply Box.set53 | with_reducible apply Box.set54 | with_reducible apply Box.drew | (with_reducible apply Box.newAt; (try simp only [World.size_alloc, World.size_setCell, World.size_drew]); done) | with_reducible apply Box.alloc | (with_reducible apply Box.other; case hne => ((try simp only [World.size_alloc, World.size_setCell, World.size_drew]); omega))))
  have N1' : IsN w3 vN1 (D) := (IsN.kept N1 (by repeat (first | with_reducible exact Kept.refl _ | with_reducible refine Kept.alloc ?_ _ | with_reducible refine Kept.drew ?_ | with_reducible refine Kept.setCell ?_ (by simp only [World.size_alloc, World.size_setCell, World.size_drew]; omega) _))).call hb
  have N2' : IsN w3 vN2 (A) := (IsN.kept N2 (by repeat (first | with_reducible exact Kept.refl _ | with_reducible refine Kept.alloc ?_ _ | with_reducible refine Kept.drew ?_ | with_reducible refine Kept.setCell ?_ (by simp only [World.size_alloc, World.size_setCell, World.size_drew]; omega) _))).call hb
  have hk' : Kept w.heap.size w w3 := Kept.step (by repeat (first | with_reducible exact hk | with_reducible exact Kept.refl _ | with_reducible refine Kept.alloc ?_ _ | with_reducible refine Kept.drew ?_ | with_reducible refine Kept.setCell ?_ (by simp only [World.size_alloc, World.size_setCell, World.size_drew]; omega) _)) hb
  clear hk hb
  clear X3 X3l1 X3l2 X3l3 X3f X30 X31
  have X3 := X3'
  clear X3'
  clear N1
  have N1 := N1'
  clear N1'
  clear N2
  have N2 := N2'
  clear N2'
  have hk := hk'
  clear hk'
  have hz_w3 := hk.size
  have X3l := X3.lt
  have X3f := X3.free
  have X3l1 : w.heap.size + 1 + 1 < w3.heap.size + 1 := by omega
  have X3l2 : w.heap.size + 1 + 1 < w3.heap.size + 1 + 1 := by omega
  have X3l3 : w.heap.size + 1 + 1 < w3.heap.size + 1 + 1 + 1 := by omega
  have X30 := X3.cell 0 _ rfl
  have X31 := X3.cell 1 _ rfl
  go_wp2
  refine bodyPost_ret (v := .tuple #[.agg #[.int .u64 0, .int .u64 0], .bool false, .bool false]) (by simp [results, Try.results39, go_sem, X30, X31]) rfl ⟨rfl, ?_⟩
  refine Kept.below ?_; repeat (first | with_reducible exact hk | with_reducible exact Kept.refl _ | with_reducible refine Kept.alloc ?_ _ | with_reducible refine Kept.drew ?_ | with_reducible refine Kept.setCell ?_ (by simp only [World.size_alloc, World.size_setCell, World.size_drew]; omega) _)

end Go.Proofs.Ytglagdmfplgfaaa
