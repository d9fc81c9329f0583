/- The reference of layer 15: contracts of Rest, Cut. -/
import Derived.Test.YtglagdmfplgfaaaRefAll
import Derived.Test.YtglagdmfplgfaaaRegionG
import Derived.Test.YtglagdmfplgfaaaNum15
import Derived.Test.YtglagdmfplgfaaaLaw13
set_option linter.unusedVariables false
set_option linter.unusedSimpArgs false
namespace Go.Proofs.Ytglagdmfplgfaaa
open Go.RowKit

theorem refCut_to {v : Value} {A X : Nat} {z : Int} (n : Nat) (hX : A % 2 ^ n = X) (hz : z = n) (hn : n ≤ 65536) (w : World) (h : IsN w v A) (hl : lenN A ≤ 1024) :
    Calls Try.prog 53 #[v, .int .i64 z] w fun e w' => ∃ u, e = .returned u ∧ IsN w' u X ∧ Below w.heap.size w w' := by
  subst hX; exact refCut_any n hz hn w h hl
theorem refShr_to15 {v : Value} {A X : Nat} {z : Int} (n : Nat) (hX : A / 2 ^ n = X) (hz : z = n) (hn : n ≤ 65536) (w : World) (h : IsN w v A) (hl : lenN A ≤ 4096) :
    Calls Try.prog 47 #[v, .int .i64 z] w fun e w' => ∃ u, e = .returned u ∧ IsN w' u X ∧ Below w.heap.size w w' := by
  subst hX; exact refShr_any n hz hn w h hl
theorem isN_nil15 (w : World) : IsN w (.slice none 0 0) 0 := by
  unfold IsN; rw [digs_zero]; exact ⟨DigL.nil, none, 0, rfl, Nat.le_refl _, fun h0 => absurd h0 (by simp)⟩
theorem refOf_one15 (w : World) : Calls Try.prog 50 #[.int .u64 1] w fun e w' => ∃ u, e = .returned u ∧ IsN w' u 1 ∧ Below w.heap.size w w' := refOf_any 1 (by decide) w
set_option maxRecDepth 100000 in
set_option maxHeartbeats 8000000 in
theorem refRest15_n0 {v : Value} {A X F : Nat} {z : Int} (n : Nat) (hz : z = (n : Int)) (n0 : 1 ≤ n) (n1 : n ≤ 256) {w : World} (nA : IsN w v A) (hl : lenN A ≤ 8) (hL : (n : Int) ≤ ((lenB A : Nat) : Int)) (eX : A % 2 ^ n = X) (lX : lenN X ≤ 8) (eF : 2 ^ (n - 1) = F) (lF : lenN F ≤ 9) (x0 : X = 0) :
    Calls Try.prog 63 #[v, .int .i64 z, .bool false] w fun e w' => e = .returned (.int .i64 0) ∧ Below w.heap.size w w' := by
  have hk := Kept.refl w
  have HZ := Lib.hid hz
  have k0 : 0 < z := by omega
  have z9 : z ≤ 256 := by omega
  have HX := Lib.hid eX; have HF := Lib.hid eF
  have k1 : z ≤ ((lenB A : Nat) : Int) := by omega
  have y0 : lenN X = 0 := by rw [x0]; exact lenN_zero
  clear hz hL x0 eX eF
  go_enter Try.func63, Try.ntmps63
  go_wp2_with fail
  (with_reducible refine (refLen_w (IsN.kept nA (by repeat (first | with_reducible exact Kept.refl _ | with_reducible refine Kept.alloc ?_ _ | with_reducible refine Kept.drew ?_ | with_reducible refine Kept.setCell ?_ (by simp only [World.size_alloc, World.size_setCell, World.size_drew]; omega) _))) (by omega)).mono ?_)
  rintro e w1 ⟨rfl, hb⟩
  have nA' : IsN w1 v (A) := (IsN.kept nA (by repeat (first | with_reducible exact Kept.refl _ | with_reducible refine Kept.alloc ?_ _ | with_reducible refine Kept.drew ?_ | with_reducible refine Kept.setCell ?_ (by simp only [World.size_alloc, World.size_setCell, World.size_drew]; omega) _))).call hb
  have hk' : Kept w.heap.size w w1 := Kept.step (by repeat (first | with_reducible exact hk | with_reducible exact Kept.refl _ | with_reducible refine Kept.alloc ?_ _ | with_reducible refine Kept.drew ?_ | with_reducible refine Kept.setCell ?_ (by simp only [World.size_alloc, World.size_setCell, World.size_drew]; omega) _)) hb
  clear hk hb
  clear nA
  have nA := nA'
  clear nA'
  have hk := hk'
  clear hk'
  have hz_w1 := hk.size
  go_wp2_with fail
  (with_reducible refine (refCut_to n HX.out HZ.out (by omega) _ (IsN.kept nA (by repeat (first | with_reducible exact Kept.refl _ | with_reducible refine Kept.alloc ?_ _ | with_reducible refine Kept.drew ?_ | with_reducible refine Kept.setCell ?_ (by simp only [World.size_alloc, World.size_setCell, World.size_drew]; omega) _))) (by omega)).mono ?_)
  rintro e w2 ⟨vN1, rfl, N1_, hb⟩
  have nA' : IsN w2 v (A) := (IsN.kept nA (by repeat (first | with_reducible exact Kept.refl _ | with_reducible refine Kept.alloc ?_ _ | with_reducible refine Kept.drew ?_ | with_reducible refine Kept.setCell ?_ (by simp only [World.size_alloc, World.size_setCell, World.size_drew]; omega) _))).call hb
  have hk' : Kept w.heap.size w w2 := Kept.step (by repeat (first | with_reducible exact hk | with_reducible exact Kept.refl _ | with_reducible refine Kept.alloc ?_ _ | with_reducible refine Kept.drew ?_ | with_reducible refine Kept.setCell ?_ (by simp only [World.size_alloc, World.size_setCell, World.size_drew]; omega) _)) hb
  clear hk hb
  clear nA
  have nA := nA'
  clear nA'
  have hk := hk'
  clear hk'
  have hz_w2 := hk.size
  have N1 : IsN w2 vN1 (X) := N1_
  clear N1_
  obtain ⟨ad_0, c_0, e_0, _, _⟩ := N1.open
  subst e_0
  go_wp2
  go_ret
  exact ⟨rfl, (by refine Kept.below ?_; repeat (first | with_reducible exact hk | with_reducible exact Kept.refl _ | with_reducible refine Kept.alloc ?_ _ | with_reducible refine Kept.drew ?_ | with_reducible refine Kept.setCell ?_ (by simp only [World.size_alloc, World.size_setCell, World.size_drew]; omega) _))⟩

set_option maxRecDepth 100000 in
set_option maxHeartbeats 8000000 in
theorem refRest15_n1 {v : Value} {A X F : Nat} {z : Int} (n : Nat) (hz : z = (n : Int)) (n0 : 1 ≤ n) (n1 : n ≤ 256) {w : World} (nA : IsN w v A) (hl : lenN A ≤ 8) (hL : (n : Int) ≤ ((lenB A : Nat) : Int)) (eX : A % 2 ^ n = X) (lX : lenN X ≤ 8) (eF : 2 ^ (n - 1) = F) (lF : lenN F ≤ 9) (x0 : ¬ X = 0) (x1 : ((lenB X : Nat) : Int) < n) :
    Calls Try.prog 63 #[v, .int .i64 z, .bool false] w fun e w' => e = .returned (.int .i64 1) ∧ Below w.heap.size w w' := by
  have hk := Kept.refl w
  have HZ := Lib.hid hz
  have k0 : 0 < z := by omega
  have z9 : z ≤ 256 := by omega
  have HX := Lib.hid eX; have HF := Lib.hid eF
  have k1 : z ≤ ((lenB A : Nat) : Int) := by omega
  have y0 : ¬ lenN X = 0 := by have := @lenN_eq_zero X; omega
  have y0b : ¬ ((lenN X : Nat) : Int) = 0 := by omega
  have y1 : ((lenB X : Nat) : Int) < z := by omega
  clear hz hL x0 eX eF x1
  go_enter Try.func63, Try.ntmps63
  go_wp2_with fail
  (with_reducible refine (refLen_w (IsN.kept nA (by repeat (first | with_reducible exact Kept.refl _ | with_reducible refine Kept.alloc ?_ _ | with_reducible refine Kept.drew ?_ | with_reducible refine Kept.setCell ?_ (by simp only [World.size_alloc, World.size_setCell, World.size_drew]; omega) _))) (by omega)).mono ?_)
  rintro e w1 ⟨rfl, hb⟩
  have nA' : IsN w1 v (A) := (IsN.kept nA (by repeat (first | with_reducible exact Kept.refl _ | with_reducible refine Kept.alloc ?_ _ | with_reducible refine Kept.drew ?_ | with_reducible refine Kept.setCell ?_ (by simp only [World.size_alloc, World.size_setCell, World.size_drew]; omega) _))).call hb
  have hk' : Kept w.heap.size w w1 := Kept.step (by repeat (first | with_reducible exact hk | with_reducible exact Kept.refl _ | with_reducible refine Kept.alloc ?_ _ | with_reducible refine Kept.drew ?_ | with_reducible refine Kept.setCell ?_ (by simp only [World.size_alloc, World.size_setCell, World.size_drew]; omega) _)) hb
  clear hk hb
  clear nA
  have nA := nA'
  clear nA'
  have hk := hk'
  clear hk'
  have hz_w1 := hk.size
  go_wp2_with fail
  (with_reducible refine (refCut_to n HX.out HZ.out (by omega) _ (IsN.kept nA (by repeat (first | with_reducible exact Kept.refl _ | with_reducible refine Kept.alloc ?_ _ | with_reducible refine Kept.drew ?_ | with_reducible refine Kept.setCell ?_ (by simp only [World.size_alloc, World.size_setCell, World.size_drew]; omega) _))) (by omega)).mono ?_)
  rintro e w2 ⟨vN1, rfl, N1_, hb⟩
  have nA' : IsN w2 v (A) := (IsN.kept nA (by repeat (first | with_reducible exact Kept.refl _ | with_reducible refine Kept.alloc ?_ _ | with_reducible refine Kept.drew ?_ | with_reducible refine Kept.setCell ?_ (by simp only [World.size_alloc, World.size_setCell, World.size_drew]; omega) _))).call hb
  have hk' : Kept w.heap.size w w2 := Kept.step (by repeat (first | with_reducible exact hk | with_reducible exact Kept.refl _ | with_reducible refine Kept.alloc ?_ _ | with_reducible refine Kept.drew ?_ | with_reducible refine Kept.setCell ?_ (by simp only [World.size_alloc, World.size_setCell, World.size_drew]; omega) _)) hb
  clear hk hb
  clear nA
  have nA := nA'
  clear nA'
  have hk := hk'
  clear hk'
  have hz_w2 := hk.size
  have N1 : IsN w2 vN1 (X) := N1_
  clear N1_
  obtain ⟨ad_0, c_0, e_0, _, _⟩ := N1.open
  subst e_0
  clear nA
  go_wp2_with fail
  (with_reducible refine (refLen_w (IsN.kept N1 (by repeat (first | with_reducible exact Kept.refl _ | with_reducible refine Kept.alloc ?_ _ | with_reducible refine Kept.drew ?_ | with_reducible refine Kept.setCell ?_ (by simp only [World.size_alloc, World.size_setCell, World.size_drew]; omega) _))) (by omega)).mono ?_)
  rintro e w3 ⟨rfl, hb⟩
  have N1' : IsN w3 (.slice ad_0 (lenN X) c_0) (X) := (IsN.kept N1 (by repeat (first | with_reducible exact Kept.refl _ | with_reducible refine Kept.alloc ?_ _ | with_reducible refine Kept.drew ?_ | with_reducible refine Kept.setCell ?_ (by simp only [World.size_alloc, World.size_setCell, World.size_drew]; omega) _))).call hb
  have hk' : Kept w.heap.size w w3 := Kept.step (by repeat (first | with_reducible exact hk | with_reducible exact Kept.refl _ | with_reducible refine Kept.alloc ?_ _ | with_reducible refine Kept.drew ?_ | with_reducible refine Kept.setCell ?_ (by simp only [World.size_alloc, World.size_setCell, World.size_drew]; omega) _)) hb
  clear hk hb
  clear N1
  have N1 := N1'
  clear N1'
  have hk := hk'
  clear hk'
  have hz_w3 := hk.size
  go_wp2
  go_ret
  exact ⟨rfl, (by refine Kept.below ?_; repeat (first | with_reducible exact hk | with_reducible exact Kept.refl _ | with_reducible refine Kept.alloc ?_ _ | with_reducible refine Kept.drew ?_ | with_reducible refine Kept.setCell ?_ (by simp only [World.size_alloc, World.size_setCell, World.size_drew]; omega) _))⟩

set_option maxRecDepth 100000 in
set_option maxHeartbeats 8000000 in
theorem refRest15_n2 {v : Value} {A X F : Nat} {z : Int} (n : Nat) (hz : z = (n : Int)) (n0 : 1 ≤ n) (n1 : n ≤ 256) {w : World} (nA : IsN w v A) (hl : lenN A ≤ 8) (hL : (n : Int) ≤ ((lenB A : Nat) : Int)) (eX : A % 2 ^ n = X) (lX : lenN X ≤ 8) (eF : 2 ^ (n - 1) = F) (lF : lenN F ≤ 9) (x0 : ¬ X = 0) (x1 : ¬ ((lenB X : Nat) : Int) < n) (x2 : X = F) :
    Calls Try.prog 63 #[v, .int .i64 z, .bool false] w fun e w' => e = .returned (.int .i64 2) ∧ Below w.heap.size w w' := by
  have hk := Kept.refl w
  have HZ := Lib.hid hz
  have k0 : 0 < z := by omega
  have z9 : z ≤ 256 := by omega
  have HX := Lib.hid eX; have HF := Lib.hid eF
  have k1 : z ≤ ((lenB A : Nat) : Int) := by omega
  have y0 : ¬ lenN X = 0 := by have := @lenN_eq_zero X; omega
  have y0b : ¬ ((lenN X : Nat) : Int) = 0 := by omega
  have HZ1 := Lib.hid (show z - 1 = ((n - 1 : Nat) : Int) by omega)
  have y1 : z ≤ ((lenB X : Nat) : Int) := by omega
  have wz : IntKind.i64.wrap (z - 1) = z - 1 := IntWalk.i64_in _ (by omega)
  have y2 : cmpN X F = 0 := by rw [x2]; exact cmp_eq F
  clear hz hL x0 eX eF x1 x2
  go_enter Try.func63, Try.ntmps63
  go_wp2_with fail
  (with_reducible refine (refLen_w (IsN.kept nA (by repeat (first | with_reducible exact Kept.refl _ | with_reducible refine Kept.alloc ?_ _ | with_reducible refine Kept.drew ?_ | with_reducible refine Kept.setCell ?_ (by simp only [World.size_alloc, World.size_setCell, World.size_drew]; omega) _))) (by omega)).mono ?_)
  rintro e w1 ⟨rfl, hb⟩
  have nA' : IsN w1 v (A) := (IsN.kept nA (by repeat (first | with_reducible exact Kept.refl _ | with_reducible refine Kept.alloc ?_ _ | with_reducible refine Kept.drew ?_ | with_reducible refine Kept.setCell ?_ (by simp only [World.size_alloc, World.size_setCell, World.size_drew]; omega) _))).call hb
  have hk' : Kept w.heap.size w w1 := Kept.step (by repeat (first | with_reducible exact hk | with_reducible exact Kept.refl _ | with_reducible refine Kept.alloc ?_ _ | with_reducible refine Kept.drew ?_ | with_reducible refine Kept.setCell ?_ (by simp only [World.size_alloc, World.size_setCell, World.size_drew]; omega) _)) hb
  clear hk hb
  clear nA
  have nA := nA'
  clear nA'
  have hk := hk'
  clear hk'
  have hz_w1 := hk.size
  go_wp2_with fail
  (with_reducible refine (refCut_to n HX.out HZ.out (by omega) _ (IsN.kept nA (by repeat (first | with_reducible exact Kept.refl _ | with_reducible refine Kept.alloc ?_ _ | with_reducible refine Kept.drew ?_ | with_reducible refine Kept.setCell ?_ (by simp only [World.size_alloc, World.size_setCell, World.size_drew]; omega) _))) (by omega)).mono ?_)
  rintro e w2 ⟨vN1, rfl, N1_, hb⟩
  have nA' : IsN w2 v (A) := (IsN.kept nA (by repeat (first | with_reducible exact Kept.refl _ | with_reducible refine Kept.alloc ?_ _ | with_reducible refine Kept.drew ?_ | with_reducible refine Kept.setCell ?_ (by simp only [World.size_alloc, World.size_setCell, World.size_drew]; omega) _))).call hb
  have hk' : Kept w.heap.size w w2 := Kept.step (by repeat (first | with_reducible exact hk | with_reducible exact Kept.refl _ | with_reducible refine Kept.alloc ?_ _ | with_reducible refine Kept.drew ?_ | with_reducible refine Kept.setCell ?_ (by simp only [World.size_alloc, World.size_setCell, World.size_drew]; omega) _)) hb
  clear hk hb
  clear nA
  have nA := nA'
  clear nA'
  have hk := hk'
  clear hk'
  have hz_w2 := hk.size
  have N1 : IsN w2 vN1 (X) := N1_
  clear N1_
  obtain ⟨ad_0, c_0, e_0, _, _⟩ := N1.open
  subst e_0
  clear nA
  go_wp2_with fail
  (with_reducible refine (refLen_w (IsN.kept N1 (by repeat (first | with_reducible exact Kept.refl _ | with_reducible refine Kept.alloc ?_ _ | with_reducible refine Kept.drew ?_ | with_reducible refine Kept.setCell ?_ (by simp only [World.size_alloc, World.size_setCell, World.size_drew]; omega) _))) (by omega)).mono ?_)
  rintro e w3 ⟨rfl, hb⟩
  have N1' : IsN w3 (.slice ad_0 (lenN X) c_0) (X) := (IsN.kept N1 (by repeat (first | with_reducible exact Kept.refl _ | with_reducible refine Kept.alloc ?_ _ | with_reducible refine Kept.drew ?_ | with_reducible refine Kept.setCell ?_ (by simp only [World.size_alloc, World.size_setCell, World.size_drew]; omega) _))).call hb
  have hk' : Kept w.heap.size w w3 := Kept.step (by repeat (first | with_reducible exact hk | with_reducible exact Kept.refl _ | with_reducible refine Kept.alloc ?_ _ | with_reducible refine Kept.drew ?_ | with_reducible refine Kept.setCell ?_ (by simp only [World.size_alloc, World.size_setCell, World.size_drew]; omega) _)) hb
  clear hk hb
  clear N1
  have N1 := N1'
  clear N1'
  have hk := hk'
  clear hk'
  have hz_w3 := hk.size
  go_wp2_with fail
  (with_reducible refine (refFullF HF.out HZ1.out (by omega) _).mono ?_)
  rintro e w4 ⟨vN2, rfl, N2_, hb⟩
  have N1' : IsN w4 (.slice ad_0 (lenN X) c_0) (X) := (IsN.kept N1 (by repeat (first | with_reducible exact Kept.refl _ | with_reducible refine Kept.alloc ?_ _ | with_reducible refine Kept.drew ?_ | with_reducible refine Kept.setCell ?_ (by simp only [World.size_alloc, World.size_setCell, World.size_drew]; omega) _))).call hb
  have hk' : Kept w.heap.size w w4 := Kept.step (by repeat (first | with_reducible exact hk | with_reducible exact Kept.refl _ | with_reducible refine Kept.alloc ?_ _ | with_reducible refine Kept.drew ?_ | with_reducible refine Kept.setCell ?_ (by simp only [World.size_alloc, World.size_setCell, World.size_drew]; omega) _)) hb
  clear hk hb
  clear N1
  have N1 := N1'
  clear N1'
  have hk := hk'
  clear hk'
  have hz_w4 := hk.size
  have N2 : IsN w4 vN2 (F) := N2_
  clear N2_
  go_wp2_with fail
  (with_reducible refine (refCmp_any _ (IsN.kept N1 (by repeat (first | with_reducible exact Kept.refl _ | with_reducible refine Kept.alloc ?_ _ | with_reducible refine Kept.drew ?_ | with_reducible refine Kept.setCell ?_ (by simp only [World.size_alloc, World.size_setCell, World.size_drew]; omega) _))) (IsN.kept N2 (by repeat (first | with_reducible exact Kept.refl _ | with_reducible refine Kept.alloc ?_ _ | with_reducible refine Kept.drew ?_ | with_reducible refine Kept.setCell ?_ (by simp only [World.size_alloc, World.size_setCell, World.size_drew]; omega) _))) (by omega) (by omega)).mono ?_)
  rintro e w5 ⟨rfl, hb⟩
  have N1' : IsN w5 (.slice ad_0 (lenN X) c_0) (X) := (IsN.kept N1 (by repeat (first | with_reducible exact Kept.refl _ | with_reducible refine Kept.alloc ?_ _ | with_reducible refine Kept.drew ?_ | with_reducible refine Kept.setCell ?_ (by simp only [World.size_alloc, World.size_setCell, World.size_drew]; omega) _))).call hb
  have N2' : IsN w5 vN2 (F) := (IsN.kept N2 (by repeat (first | with_reducible exact Kept.refl _ | with_reducible refine Kept.alloc ?_ _ | with_reducible refine Kept.drew ?_ | with_reducible refine Kept.setCell ?_ (by simp only [World.size_alloc, World.size_setCell, World.size_drew]; omega) _))).call hb
  have hk' : Kept w.heap.size w w5 := Kept.step (by repeat (first | with_reducible exact hk | with_reducible exact Kept.refl _ | with_reducible refine Kept.alloc ?_ _ | with_reducible refine Kept.drew ?_ | with_reducible refine Kept.setCell ?_ (by simp only [World.size_alloc, World.size_setCell, World.size_drew]; omega) _)) hb
  clear hk hb
  clear N1
  have N1 := N1'
  clear N1'
  clear N2
  have N2 := N2'
  clear N2'
  have hk := hk'
  clear hk'
  have hz_w5 := hk.size
  go_wp2
  go_ret
  exact ⟨rfl, (by refine Kept.below ?_; repeat (first | with_reducible exact hk | with_reducible exact Kept.refl _ | with_reducible refine Kept.alloc ?_ _ | with_reducible refine Kept.drew ?_ | with_reducible refine Kept.setCell ?_ (by simp only [World.size_alloc, World.size_setCell, World.size_drew]; omega) _))⟩

set_option maxRecDepth 100000 in
set_option maxHeartbeats 8000000 in
theorem refRest15_n3 {v : Value} {A X F : Nat} {z : Int} (n : Nat) (hz : z = (n : Int)) (n0 : 1 ≤ n) (n1 : n ≤ 256) {w : World} (nA : IsN w v A) (hl : lenN A ≤ 8) (hL : (n : Int) ≤ ((lenB A : Nat) : Int)) (eX : A % 2 ^ n = X) (lX : lenN X ≤ 8) (eF : 2 ^ (n - 1) = F) (lF : lenN F ≤ 9) (x0 : ¬ X = 0) (x1 : ¬ ((lenB X : Nat) : Int) < n) (x2 : ¬ X = F) :
    Calls Try.prog 63 #[v, .int .i64 z, .bool false] w fun e w' => e = .returned (.int .i64 3) ∧ Below w.heap.size w w' := by
  have hk := Kept.refl w
  have HZ := Lib.hid hz
  have k0 : 0 < z := by omega
  have z9 : z ≤ 256 := by omega
  have HX := Lib.hid eX; have HF := Lib.hid eF
  have k1 : z ≤ ((lenB A : Nat) : Int) := by omega
  have y0 : ¬ lenN X = 0 := by have := @lenN_eq_zero X; omega
  have y0b : ¬ ((lenN X : Nat) : Int) = 0 := by omega
  have HZ1 := Lib.hid (show z - 1 = ((n - 1 : Nat) : Int) by omega)
  have y1 : z ≤ ((lenB X : Nat) : Int) := by omega
  have wz : IntKind.i64.wrap (z - 1) = z - 1 := IntWalk.i64_in _ (by omega)
  have y2 : ¬ cmpN X F = 0 := by have := @cmp_neg X F; have := @cmp_le X F; omega
  clear hz hL x0 eX eF x1 x2
  go_enter Try.func63, Try.ntmps63
  go_wp2_with fail
  (with_reducible refine (refLen_w (IsN.kept nA (by repeat (first | with_reducible exact Kept.refl _ | with_reducible refine Kept.alloc ?_ _ | with_reducible refine Kept.drew ?_ | with_reducible refine Kept.setCell ?_ (by simp only [World.size_alloc, World.size_setCell, World.size_drew]; omega) _))) (by omega)).mono ?_)
  rintro e w1 ⟨rfl, hb⟩
  have nA' : IsN w1 v (A) := (IsN.kept nA (by repeat (first | with_reducible exact Kept.refl _ | with_reducible refine Kept.alloc ?_ _ | with_reducible refine Kept.drew ?_ | with_reducible refine Kept.setCell ?_ (by simp only [World.size_alloc, World.size_setCell, World.size_drew]; omega) _))).call hb
  have hk' : Kept w.heap.size w w1 := Kept.step (by repeat (first | with_reducible exact hk | with_reducible exact Kept.refl _ | with_reducible refine Kept.alloc ?_ _ | with_reducible refine Kept.drew ?_ | with_reducible refine Kept.setCell ?_ (by simp only [World.size_alloc, World.size_setCell, World.size_drew]; omega) _)) hb
  clear hk hb
  clear nA
  have nA := nA'
  clear nA'
  have hk := hk'
  clear hk'
  have hz_w1 := hk.size
  go_wp2_with fail
  (with_reducible refine (refCut_to n HX.out HZ.out (by omega) _ (IsN.kept nA (by repeat (first | with_reducible exact Kept.refl _ | with_reducible refine Kept.alloc ?_ _ | with_reducible refine Kept.drew ?_ | with_reducible refine Kept.setCell ?_ (by simp only [World.size_alloc, World.size_setCell, World.size_drew]; omega) _))) (by omega)).mono ?_)
  rintro e w2 ⟨vN1, rfl, N1_, hb⟩
  have nA' : IsN w2 v (A) := (IsN.kept nA (by repeat (first | with_reducible exact Kept.refl _ | with_reducible refine Kept.alloc ?_ _ | with_reducible refine Kept.drew ?_ | with_reducible refine Kept.setCell ?_ (by simp only [World.size_alloc, World.size_setCell, World.size_drew]; omega) _))).call hb
  have hk' : Kept w.heap.size w w2 := Kept.step (by repeat (first | with_reducible exact hk | with_reducible exact Kept.refl _ | with_reducible refine Kept.alloc ?_ _ | with_reducible refine Kept.drew ?_ | with_reducible refine Kept.setCell ?_ (by simp only [World.size_alloc, World.size_setCell, World.size_drew]; omega) _)) hb
  clear hk hb
  clear nA
  have nA := nA'
  clear nA'
  have hk := hk'
  clear hk'
  have hz_w2 := hk.size
  have N1 : IsN w2 vN1 (X) := N1_
  clear N1_
  obtain ⟨ad_0, c_0, e_0, _, _⟩ := N1.open
  subst e_0
  clear nA
  go_wp2_with fail
  (with_reducible refine (refLen_w (IsN.kept N1 (by repeat (first | with_reducible exact Kept.refl _ | with_reducible refine Kept.alloc ?_ _ | with_reducible refine Kept.drew ?_ | with_reducible refine Kept.setCell ?_ (by simp only [World.size_alloc, World.size_setCell, World.size_drew]; omega) _))) (by omega)).mono ?_)
  rintro e w3 ⟨rfl, hb⟩
  have N1' : IsN w3 (.slice ad_0 (lenN X) c_0) (X) := (IsN.kept N1 (by repeat (first | with_reducible exact Kept.refl _ | with_reducible refine Kept.alloc ?_ _ | with_reducible refine Kept.drew ?_ | with_reducible refine Kept.setCell ?_ (by simp only [World.size_alloc, World.size_setCell, World.size_drew]; omega) _))).call hb
  have hk' : Kept w.heap.size w w3 := Kept.step (by repeat (first | with_reducible exact hk | with_reducible exact Kept.refl _ | with_reducible refine Kept.alloc ?_ _ | with_reducible refine Kept.drew ?_ | with_reducible refine Kept.setCell ?_ (by simp only [World.size_alloc, World.size_setCell, World.size_drew]; omega) _)) hb
  clear hk hb
  clear N1
  have N1 := N1'
  clear N1'
  have hk := hk'
  clear hk'
  have hz_w3 := hk.size
  go_wp2_with fail
  (with_reducible refine (refFullF HF.out HZ1.out (by omega) _).mono ?_)
  rintro e w4 ⟨vN2, rfl, N2_, hb⟩
  have N1' : IsN w4 (.slice ad_0 (lenN X) c_0) (X) := (IsN.kept N1 (by repeat (first | with_reducible exact Kept.refl _ | with_reducible refine Kept.alloc ?_ _ | with_reducible refine Kept.drew ?_ | with_reducible refine Kept.setCell ?_ (by simp only [World.size_alloc, World.size_setCell, World.size_drew]; omega) _))).call hb
  have hk' : Kept w.heap.size w w4 := Kept.step (by repeat (first | with_reducible exact hk | with_reducible exact Kept.refl _ | with_reducible refine Kept.alloc ?_ _ | with_reducible refine Kept.drew ?_ | with_reducible refine Kept.setCell ?_ (by simp only [World.size_alloc, World.size_setCell, World.size_drew]; omega) _)) hb
  clear hk hb
  clear N1
  have N1 := N1'
  clear N1'
  have hk := hk'
  clear hk'
  have hz_w4 := hk.size
  have N2 : IsN w4 vN2 (F) := N2_
  clear N2_
  go_wp2_with fail
  (with_reducible refine (refCmp_any _ (IsN.kept N1 (by repeat (first | with_reducible exact Kept.refl _ | with_reducible refine Kept.alloc ?_ _ | with_reducible refine Kept.drew ?_ | with_reducible refine Kept.setCell ?_ (by simp only [World.size_alloc, World.size_setCell, World.size_drew]; omega) _))) (IsN.kept N2 (by repeat (first | with_reducible exact Kept.refl _ | with_reducible refine Kept.alloc ?_ _ | with_reducible refine Kept.drew ?_ | with_reducible refine Kept.setCell ?_ (by simp only [World.size_alloc, World.size_setCell, World.size_drew]; omega) _))) (by omega) (by omega)).mono ?_)
  rintro e w5 ⟨rfl, hb⟩
  have N1' : IsN w5 (.slice ad_0 (lenN X) c_0) (X) := (IsN.kept N1 (by repeat (first | with_reducible exact Kept.refl _ | with_reducible refine Kept.alloc ?_ _ | with_reducible refine Kept.drew ?_ | with_reducible refine Kept.setCell ?_ (by simp only [World.size_alloc, World.size_setCell, World.size_drew]; omega) _))).call hb
  have N2' : IsN w5 vN2 (F) := (IsN.kept N2 (by repeat (first | with_reducible exact Kept.refl _ | with_reducible refine Kept.alloc ?_ _ | with_reducible refine Kept.drew ?_ | with_reducible refine Kept.setCell ?_ (by simp only [World.size_alloc, World.size_setCell, World.size_drew]; omega) _))).call hb
  have hk' : Kept w.heap.size w w5 := Kept.step (by repeat (first | with_reducible exact hk | with_reducible exact Kept.refl _ | with_reducible refine Kept.alloc ?_ _ | with_reducible refine Kept.drew ?_ | with_reducible refine Kept.setCell ?_ (by simp only [World.size_alloc, World.size_setCell, World.size_drew]; omega) _)) hb
  clear hk hb
  clear N1
  have N1 := N1'
  clear N1'
  clear N2
  have N2 := N2'
  clear N2'
  have hk := hk'
  clear hk'
  have hz_w5 := hk.size
  go_wp2
  go_ret
  exact ⟨rfl, (by refine Kept.below ?_; repeat (first | with_reducible exact hk | with_reducible exact Kept.refl _ | with_reducible refine Kept.alloc ?_ _ | with_reducible refine Kept.drew ?_ | with_reducible refine Kept.setCell ?_ (by simp only [World.size_alloc, World.size_setCell, World.size_drew]; omega) _))⟩

set_option maxRecDepth 100000 in
set_option maxHeartbeats 8000000 in
theorem refRest15_f0 {v : Value} {A : Nat} {z : Int} (n : Nat) (hz : z = (n : Int)) (n0 : 1 ≤ n) (n1 : n ≤ 256) {w : World} (nA : IsN w v A) (hl : lenN A ≤ 8) (hL : (n : Int) > ((lenB A : Nat) : Int)) (x0 : A = 0) :
    Calls Try.prog 63 #[v, .int .i64 z, .bool false] w fun e w' => e = .returned (.int .i64 0) ∧ Below w.heap.size w w' := by
  have hk := Kept.refl w
  have HZ := Lib.hid hz
  have k0 : 0 < z := by omega
  have z9 : z ≤ 256 := by omega
  have k1 : ((lenB A : Nat) : Int) < z := by omega
  have y0 : lenN A = 0 := by rw [x0]; exact lenN_zero
  clear hz hL x0
  go_enter Try.func63, Try.ntmps63
  go_wp2_with fail
  (with_reducible refine (refLen_w (IsN.kept nA (by repeat (first | with_reducible exact Kept.refl _ | with_reducible refine Kept.alloc ?_ _ | with_reducible refine Kept.drew ?_ | with_reducible refine Kept.setCell ?_ (by simp only [World.size_alloc, World.size_setCell, World.size_drew]; omega) _))) (by omega)).mono ?_)
  rintro e w1 ⟨rfl, hb⟩
  have nA' : IsN w1 v (A) := (IsN.kept nA (by repeat (first | with_reducible exact Kept.refl _ | with_reducible refine Kept.alloc ?_ _ | with_reducible refine Kept.drew ?_ | with_reducible refine Kept.setCell ?_ (by simp only [World.size_alloc, World.size_setCell, World.size_drew]; omega) _))).call hb
  have hk' : Kept w.heap.size w w1 := Kept.step (by repeat (first | with_reducible exact hk | with_reducible exact Kept.refl _ | with_reducible refine Kept.alloc ?_ _ | with_reducible refine Kept.drew ?_ | with_reducible refine Kept.setCell ?_ (by simp only [World.size_alloc, World.size_setCell, World.size_drew]; omega) _)) hb
  clear hk hb
  clear nA
  have nA := nA'
  clear nA'
  have hk := hk'
  clear hk'
  have hz_w1 := hk.size
  obtain ⟨ad_0, c_0, e_0, _, _⟩ := nA.open
  subst e_0
  go_wp2
  go_ret
  exact ⟨rfl, (by refine Kept.below ?_; repeat (first | with_reducible exact hk | with_reducible exact Kept.refl _ | with_reducible refine Kept.alloc ?_ _ | with_reducible refine Kept.drew ?_ | with_reducible refine Kept.setCell ?_ (by simp only [World.size_alloc, World.size_setCell, World.size_drew]; omega) _))⟩

set_option maxRecDepth 100000 in
set_option maxHeartbeats 8000000 in
theorem refRest15_f1 {v : Value} {A : Nat} {z : Int} (n : Nat) (hz : z = (n : Int)) (n0 : 1 ≤ n) (n1 : n ≤ 256) {w : World} (nA : IsN w v A) (hl : lenN A ≤ 8) (hL : (n : Int) > ((lenB A : Nat) : Int)) (x0 : ¬ A = 0) (x1 : ((lenB A : Nat) : Int) < n) :
    Calls Try.prog 63 #[v, .int .i64 z, .bool false] w fun e w' => e = .returned (.int .i64 1) ∧ Below w.heap.size w w' := by
  have hk := Kept.refl w
  have HZ := Lib.hid hz
  have k0 : 0 < z := by omega
  have z9 : z ≤ 256 := by omega
  have k1 : ((lenB A : Nat) : Int) < z := by omega
  have y0 : ¬ lenN A = 0 := by have := @lenN_eq_zero A; omega
  have y0b : ¬ ((lenN A : Nat) : Int) = 0 := by omega
  clear hz hL x0 x1
  go_enter Try.func63, Try.ntmps63
  go_wp2_with fail
  (with_reducible refine (refLen_w (IsN.kept nA (by repeat (first | with_reducible exact Kept.refl _ | with_reducible refine Kept.alloc ?_ _ | with_reducible refine Kept.drew ?_ | with_reducible refine Kept.setCell ?_ (by simp only [World.size_alloc, World.size_setCell, World.size_drew]; omega) _))) (by omega)).mono ?_)
  rintro e w1 ⟨rfl, hb⟩
  have nA' : IsN w1 v (A) := (IsN.kept nA (by repeat (first | with_reducible exact Kept.refl _ | with_reducible refine Kept.alloc ?_ _ | with_reducible refine Kept.drew ?_ | with_reducible refine Kept.setCell ?_ (by simp only [World.size_alloc, World.size_setCell, World.size_drew]; omega) _))).call hb
  have hk' : Kept w.heap.size w w1 := Kept.step (by repeat (first | with_reducible exact hk | with_reducible exact Kept.refl _ | with_reducible refine Kept.alloc ?_ _ | with_reducible refine Kept.drew ?_ | with_reducible refine Kept.setCell ?_ (by simp only [World.size_alloc, World.size_setCell, World.size_drew]; omega) _)) hb
  clear hk hb
  clear nA
  have nA := nA'
  clear nA'
  have hk := hk'
  clear hk'
  have hz_w1 := hk.size
  obtain ⟨ad_0, c_0, e_0, _, _⟩ := nA.open
  subst e_0
  go_wp2_with fail
  (with_reducible refine (refLen_w (IsN.kept nA (by repeat (first | with_reducible exact Kept.refl _ | with_reducible refine Kept.alloc ?_ _ | with_reducible refine Kept.drew ?_ | with_reducible refine Kept.setCell ?_ (by simp only [World.size_alloc, World.size_setCell, World.size_drew]; omega) _))) (by omega)).mono ?_)
  rintro e w2 ⟨rfl, hb⟩
  have nA' : IsN w2 (.slice ad_0 (lenN A) c_0) (A) := (IsN.kept nA (by repeat (first | with_reducible exact Kept.refl _ | with_reducible refine Kept.alloc ?_ _ | with_reducible refine Kept.drew ?_ | with_reducible refine Kept.setCell ?_ (by simp only [World.size_alloc, World.size_setCell, World.size_drew]; omega) _))).call hb
  have hk' : Kept w.heap.size w w2 := Kept.step (by repeat (first | with_reducible exact hk | with_reducible exact Kept.refl _ | with_reducible refine Kept.alloc ?_ _ | with_reducible refine Kept.drew ?_ | with_reducible refine Kept.setCell ?_ (by simp only [World.size_alloc, World.size_setCell, World.size_drew]; omega) _)) hb
  clear hk hb
  clear nA
  have nA := nA'
  clear nA'
  have hk := hk'
  clear hk'
  have hz_w2 := hk.size
  go_wp2
  go_ret
  exact ⟨rfl, (by refine Kept.below ?_; repeat (first | with_reducible exact hk | with_reducible exact Kept.refl _ | with_reducible refine Kept.alloc ?_ _ | with_reducible refine Kept.drew ?_ | with_reducible refine Kept.setCell ?_ (by simp only [World.size_alloc, World.size_setCell, World.size_drew]; omega) _))⟩

theorem rest_none {W : Nat} {k : Int} (j : Nat) (e : 256 - k = ((j + 1 : Nat) : Int)) (h0 : 0 ≤ k) (h1 : k ≤ 127) (c : Int)
    (h : (W % 2 ^ (j + 1) = 0 ∧ c = 0) ∨ (0 < W % 2 ^ (j + 1) ∧ W % 2 ^ (j + 1) < 2 ^ j ∧ c = 1) ∨ (W % 2 ^ (j + 1) = 2 ^ j ∧ c = 2) ∨ (2 ^ j < W % 2 ^ (j + 1) ∧ c = 3)) : restI W k = c := by
  obtain ⟨i, _, e2, h2⟩ := rest_spec W k h0 h1
  obtain rfl : i = j := by omega
  have := Nat.two_pow_pos i
  rcases h with ⟨a, b⟩ | ⟨a, a2, b⟩ | ⟨a, b⟩ | ⟨a, b⟩ <;> rcases h2 with ⟨c, d⟩ | ⟨c, c2, d⟩ | ⟨c, d⟩ | ⟨c, d⟩ <;> omega
theorem refRest15_any {v : Value} {W : Nat} {k z : Int} (hW : W256 W) (h0 : 0 ≤ k) (h1 : k ≤ 127) (hz : z = 256 - k) {w : World} (nA : IsN w v W) :
    Calls Try.prog 63 #[v, .int .i64 z, .bool false] w fun e w' => e = .returned (.int .i64 (restI W k)) ∧ Below w.heap.size w w' := by
  obtain ⟨j, hj⟩ : ∃ j : Nat, 256 - k = ((j + 1 : Nat) : Int) := ⟨(255 - k).toNat, by omega⟩
  have hl := len256 hW
  have hzn : z = ((j + 1 : Nat) : Int) := by omega
  have hm := lenN_mod W (2 ^ (j + 1))
  have key := fun c h => rest_none (W := W) j hj h0 h1 c h
  have hp := Nat.two_pow_pos j
  by_cases hL : ((j + 1 : Nat) : Int) ≤ ((lenB W : Nat) : Int)
  · have lF : lenN (2 ^ (j + 1 - 1)) ≤ 9 := by have := lenN_pow (j + 1 - 1); omega
    by_cases x0 : W % 2 ^ (j + 1) = 0
    · rw [key 0 (.inl ⟨x0, rfl⟩)]
      exact refRest15_n0 (j + 1) hzn (by omega) (by omega) nA hl hL rfl (by omega) rfl lF x0
    · have hb := @lenB_gt (W % 2 ^ (j + 1)) j
      by_cases x1 : ((lenB (W % 2 ^ (j + 1)) : Nat) : Int) < ((j + 1 : Nat) : Int)
      · rw [key 1 (.inr (.inl ⟨by omega, by omega, rfl⟩))]
        exact refRest15_n1 (j + 1) hzn (by omega) (by omega) nA hl hL rfl (by omega) rfl lF x0 x1
      · by_cases x2 : W % 2 ^ (j + 1) = 2 ^ j
        · rw [key 2 (.inr (.inr (.inl ⟨x2, rfl⟩)))]
          exact refRest15_n2 (j + 1) hzn (by omega) (by omega) nA hl hL rfl (by omega) rfl lF x0 x1 (by rw [x2, Nat.add_sub_cancel])
        · rw [key 3 (.inr (.inr (.inr ⟨by omega, rfl⟩)))]
          exact refRest15_n3 (j + 1) hzn (by omega) (by omega) nA hl hL rfl (by omega) rfl lF x0 x1 (by rw [Nat.add_sub_cancel]; exact x2)
  · have hlt : W < 2 ^ (j + 1) := Nat.lt_of_lt_of_le (lt_lenB W) (Nat.pow_le_pow_right (by omega) (by omega))
    have hmod := Nat.mod_eq_of_lt hlt
    have hj2 : W < 2 ^ j := Nat.lt_of_lt_of_le (lt_lenB W) (Nat.pow_le_pow_right (by omega) (by omega))
    by_cases x0 : W = 0
    · rw [key 0 (.inl ⟨by rw [hmod]; exact x0, rfl⟩)]
      exact refRest15_f0 (j + 1) hzn (by omega) (by omega) nA hl (by omega) x0
    · rw [key 1 (.inr (.inl ⟨by rw [hmod]; omega, by rw [hmod]; exact hj2, rfl⟩))]
      exact refRest15_f1 (j + 1) hzn (by omega) (by omega) nA hl (by omega) x0 (by omega)
theorem refNext15 (m : Int) (neg odd : Bool) (r : Int) (w : World) :
    Calls Try.prog 65 #[.int .u8 m, .bool neg, .bool odd, .int .i64 r] w fun e w' => e = .returned (.bool (nextB m neg odd r)) ∧ Below w.heap.size w w' :=
  (refNext_any m neg odd r w).mono fun _ _ ⟨he, hw⟩ => ⟨he, hw ▸ Below.refl _ _⟩
set_option maxRecDepth 100000 in
set_option maxHeartbeats 8000000 in
theorem refCut15_n0 {v : Value} {A X : Nat} {z m r : Int} {neg od : Bool} (n : Nat) (hz : z = (n : Int)) (n0 : 1 ≤ n) (n1 : n ≤ 256) {w : World} (nA : IsN w v A) (hl : lenN A ≤ 8) (hr : ∀ w v, IsN w v A → Calls Try.prog 63 #[v, .int .i64 z, .bool false] w fun e w' => e = .returned (.int .i64 r) ∧ Below w.heap.size w w') (hL : (n : Int) ≤ ((lenB A : Nat) : Int)) (eX : A / 2 ^ n = X) (lX : lenN X ≤ 8) (hod : bitZ X 0 = od) (hup : nextB m neg od r = false) :
    Calls Try.prog 30 #[v, .int .i64 z, .bool false, .int .u8 m, .bool neg] w fun e w' => ∃ u, e = .returned (.tuple #[u, .int .i64 r]) ∧ IsN w' u (X) ∧ Below w.heap.size w w' := by
  have hk := Kept.refl w
  have HZ := Lib.hid hz
  have z9 : z ≤ 256 := by omega
  have N0 := isN_nil15 w
  have HR := Lib.hid (fun w {v} h => hr w v h)
  have HOD := Lib.hid hod; have HUP := Lib.hid hup
  have k0 : 0 < z := by omega
  have l0 : lenN 0 ≤ 8 := by rw [lenN_zero]; omega
  have l1 : lenN 1 ≤ 1 := lenN_le 1 1 (by decide)
  have HX := Lib.hid eX
  have k1 : z ≤ ((lenB A : Nat) : Int) := by omega
  clear hz hL hr hod hup eX
  go_enter Try.func30, Try.ntmps30
  clear N0
  go_wp2_with fail
  (with_reducible refine (HR.out _ (IsN.kept nA (by repeat (first | with_reducible exact Kept.refl _ | with_reducible refine Kept.alloc ?_ _ | with_reducible refine Kept.drew ?_ | with_reducible refine Kept.setCell ?_ (by simp only [World.size_alloc, World.size_setCell, World.size_drew]; omega) _)))).mono ?_)
  rintro e w1 ⟨rfl, hb⟩
  have nA' : IsN w1 v (A) := (IsN.kept nA (by repeat (first | with_reducible exact Kept.refl _ | with_reducible refine Kept.alloc ?_ _ | with_reducible refine Kept.drew ?_ | with_reducible refine Kept.setCell ?_ (by simp only [World.size_alloc, World.size_setCell, World.size_drew]; omega) _))).call hb
  have hk' : Kept w.heap.size w w1 := Kept.step (by repeat (first | with_reducible exact hk | with_reducible exact Kept.refl _ | with_reducible refine Kept.alloc ?_ _ | with_reducible refine Kept.drew ?_ | with_reducible refine Kept.setCell ?_ (by simp only [World.size_alloc, World.size_setCell, World.size_drew]; omega) _)) hb
  clear hk hb
  clear nA
  have nA := nA'
  clear nA'
  have hk := hk'
  clear hk'
  have hz_w1 := hk.size
  go_wp2_with fail
  (with_reducible refine (refLen_w (IsN.kept nA (by repeat (first | with_reducible exact Kept.refl _ | with_reducible refine Kept.alloc ?_ _ | with_reducible refine Kept.drew ?_ | with_reducible refine Kept.setCell ?_ (by simp only [World.size_alloc, World.size_setCell, World.size_drew]; omega) _))) (by omega)).mono ?_)
  rintro e w2 ⟨rfl, hb⟩
  have nA' : IsN w2 v (A) := (IsN.kept nA (by repeat (first | with_reducible exact Kept.refl _ | with_reducible refine Kept.alloc ?_ _ | with_reducible refine Kept.drew ?_ | with_reducible refine Kept.setCell ?_ (by simp only [World.size_alloc, World.size_setCell, World.size_drew]; omega) _))).call hb
  have hk' : Kept w.heap.size w w2 := Kept.step (by repeat (first | with_reducible exact hk | with_reducible exact Kept.refl _ | with_reducible refine Kept.alloc ?_ _ | with_reducible refine Kept.drew ?_ | with_reducible refine Kept.setCell ?_ (by simp only [World.size_alloc, World.size_setCell, World.size_drew]; omega) _)) hb
  clear hk hb
  clear nA
  have nA := nA'
  clear nA'
  have hk := hk'
  clear hk'
  have hz_w2 := hk.size
  go_wp2_with fail
  (with_reducible refine (refShr_to15 n HX.out HZ.out (by omega) _ (IsN.kept nA (by repeat (first | with_reducible exact Kept.refl _ | with_reducible refine Kept.alloc ?_ _ | with_reducible refine Kept.drew ?_ | with_reducible refine Kept.setCell ?_ (by simp only [World.size_alloc, World.size_setCell, World.size_drew]; omega) _))) (by omega)).mono ?_)
  rintro e w3 ⟨vN1, rfl, N1_, hb⟩
  have nA' : IsN w3 v (A) := (IsN.kept nA (by repeat (first | with_reducible exact Kept.refl _ | with_reducible refine Kept.alloc ?_ _ | with_reducible refine Kept.drew ?_ | with_reducible refine Kept.setCell ?_ (by simp only [World.size_alloc, World.size_setCell, World.size_drew]; omega) _))).call hb
  have hk' : Kept w.heap.size w w3 := Kept.step (by repeat (first | with_reducible exact hk | with_reducible exact Kept.refl _ | with_reducible refine Kept.alloc ?_ _ | with_reducible refine Kept.drew ?_ | with_reducible refine Kept.setCell ?_ (by simp only [World.size_alloc, World.size_setCell, World.size_drew]; omega) _)) hb
  clear hk hb
  clear nA
  have nA := nA'
  clear nA'
  have hk := hk'
  clear hk'
  have hz_w3 := hk.size
  have N1 : IsN w3 vN1 (X) := N1_
  clear N1_
  clear nA
  go_wp2_with fail
  (with_reducible refine (calls_to (V := .bool (od)) (refBit_w 0 (by omega) (IsN.kept N1 (by repeat (first | with_reducible exact Kept.refl _ | with_reducible refine Kept.alloc ?_ _ | with_reducible refine Kept.drew ?_ | with_reducible refine Kept.setCell ?_ (by simp only [World.size_alloc, World.size_setCell, World.size_drew]; omega) _))) (by omega)) (by rw [HOD.out])).mono ?_)
  rintro e w4 ⟨rfl, hb⟩
  have N1' : IsN w4 vN1 (X) := (IsN.kept N1 (by repeat (first | with_reducible exact Kept.refl _ | with_reducible refine Kept.alloc ?_ _ | with_reducible refine Kept.drew ?_ | with_reducible refine Kept.setCell ?_ (by simp only [World.size_alloc, World.size_setCell, World.size_drew]; omega) _))).call hb
  have hk' : Kept w.heap.size w w4 := Kept.step (by repeat (first | with_reducible exact hk | with_reducible exact Kept.refl _ | with_reducible refine Kept.alloc ?_ _ | with_reducible refine Kept.drew ?_ | with_reducible refine Kept.setCell ?_ (by simp only [World.size_alloc, World.size_setCell, World.size_drew]; omega) _)) hb
  clear hk hb
  clear N1
  have N1 := N1'
  clear N1'
  have hk := hk'
  clear hk'
  have hz_w4 := hk.size
  go_wp2_with fail
  (with_reducible refine (calls_to (V := .bool false) (refNext15 m neg od r _) (by rw [HUP.out])).mono ?_)
  rintro e w5 ⟨rfl, hb⟩
  have N1' : IsN w5 vN1 (X) := (IsN.kept N1 (by repeat (first | with_reducible exact Kept.refl _ | with_reducible refine Kept.alloc ?_ _ | with_reducible refine Kept.drew ?_ | with_reducible refine Kept.setCell ?_ (by simp only [World.size_alloc, World.size_setCell, World.size_drew]; omega) _))).call hb
  have hk' : Kept w.heap.size w w5 := Kept.step (by repeat (first | with_reducible exact hk | with_reducible exact Kept.refl _ | with_reducible refine Kept.alloc ?_ _ | with_reducible refine Kept.drew ?_ | with_reducible refine Kept.setCell ?_ (by simp only [World.size_alloc, World.size_setCell, World.size_drew]; omega) _)) hb
  clear hk hb
  clear N1
  have N1 := N1'
  clear N1'
  have hk := hk'
  clear hk'
  have hz_w5 := hk.size
  go_wp2
  refine bodyPost_ret (v := .tuple #[vN1, .int .i64 r]) (by simp [results, Try.results30, go_sem]) rfl ⟨_, rfl, IsN.kept N1 (by repeat (first | with_reducible exact Kept.refl _ | with_reducible refine Kept.alloc ?_ _ | with_reducible refine Kept.drew ?_ | with_reducible refine Kept.setCell ?_ (by simp only [World.size_alloc, World.size_setCell, World.size_drew]; omega) _)), ?_⟩
  refine Kept.below ?_; repeat (first | with_reducible exact hk | with_reducible exact Kept.refl _ | with_reducible refine Kept.alloc ?_ _ | with_reducible refine Kept.drew ?_ | with_reducible refine Kept.setCell ?_ (by simp only [World.size_alloc, World.size_setCell, World.size_drew]; omega) _)

set_option maxRecDepth 100000 in
set_option maxHeartbeats 8000000 in
theorem refCut15_n1 {v : Value} {A X : Nat} {z m r : Int} {neg od : Bool} (n : Nat) (hz : z = (n : Int)) (n0 : 1 ≤ n) (n1 : n ≤ 256) {w : World} (nA : IsN w v A) (hl : lenN A ≤ 8) (hr : ∀ w v, IsN w v A → Calls Try.prog 63 #[v, .int .i64 z, .bool false] w fun e w' => e = .returned (.int .i64 r) ∧ Below w.heap.size w w') (hL : (n : Int) ≤ ((lenB A : Nat) : Int)) (eX : A / 2 ^ n = X) (lX : lenN X ≤ 8) (hod : bitZ X 0 = od) (hup : nextB m neg od r = true) :
    Calls Try.prog 30 #[v, .int .i64 z, .bool false, .int .u8 m, .bool neg] w fun e w' => ∃ u, e = .returned (.tuple #[u, .int .i64 r]) ∧ IsN w' u (X + 1) ∧ Below w.heap.size w w' := by
  have hk := Kept.refl w
  have HZ := Lib.hid hz
  have z9 : z ≤ 256 := by omega
  have N0 := isN_nil15 w
  have HR := Lib.hid (fun w {v} h => hr w v h)
  have HOD := Lib.hid hod; have HUP := Lib.hid hup
  have k0 : 0 < z := by omega
  have l0 : lenN 0 ≤ 8 := by rw [lenN_zero]; omega
  have l1 : lenN 1 ≤ 1 := lenN_le 1 1 (by decide)
  have HX := Lib.hid eX
  have k1 : z ≤ ((lenB A : Nat) : Int) := by omega
  clear hz hL hr hod hup eX
  go_enter Try.func30, Try.ntmps30
  clear N0
  go_wp2_with fail
  (with_reducible refine (HR.out _ (IsN.kept nA (by repeat (first | with_reducible exact Kept.refl _ | with_reducible refine Kept.alloc ?_ _ | with_reducible refine Kept.drew ?_ | with_reducible refine Kept.setCell ?_ (by simp only [World.size_alloc, World.size_setCell, World.size_drew]; omega) _)))).mono ?_)
  rintro e w1 ⟨rfl, hb⟩
  have nA' : IsN w1 v (A) := (IsN.kept nA (by repeat (first | with_reducible exact Kept.refl _ | with_reducible refine Kept.alloc ?_ _ | with_reducible refine Kept.drew ?_ | with_reducible refine Kept.setCell ?_ (by simp only [World.size_alloc, World.size_setCell, World.size_drew]; omega) _))).call hb
  have hk' : Kept w.heap.size w w1 := Kept.step (by repeat (first | with_reducible exact hk | with_reducible exact Kept.refl _ | with_reducible refine Kept.alloc ?_ _ | with_reducible refine Kept.drew ?_ | with_reducible refine Kept.setCell ?_ (by simp only [World.size_alloc, World.size_setCell, World.size_drew]; omega) _)) hb
  clear hk hb
  clear nA
  have nA := nA'
  clear nA'
  have hk := hk'
  clear hk'
  have hz_w1 := hk.size
  go_wp2_with fail
  (with_reducible refine (refLen_w (IsN.kept nA (by repeat (first | with_reducible exact Kept.refl _ | with_reducible refine Kept.alloc ?_ _ | with_reducible refine Kept.drew ?_ | with_reducible refine Kept.setCell ?_ (by simp only [World.size_alloc, World.size_setCell, World.size_drew]; omega) _))) (by omega)).mono ?_)
  rintro e w2 ⟨rfl, hb⟩
  have nA' : IsN w2 v (A) := (IsN.kept nA (by repeat (first | with_reducible exact Kept.refl _ | with_reducible refine Kept.alloc ?_ _ | with_reducible refine Kept.drew ?_ | with_reducible refine Kept.setCell ?_ (by simp only [World.size_alloc, World.size_setCell, World.size_drew]; omega) _))).call hb
  have hk' : Kept w.heap.size w w2 := Kept.step (by repeat (first | with_reducible exact hk | with_reducible exact Kept.refl _ | with_reducible refine Kept.alloc ?_ _ | with_reducible refine Kept.drew ?_ | with_reducible refine Kept.setCell ?_ (by simp only [World.size_alloc, World.size_setCell, World.size_drew]; omega) _)) hb
  clear hk hb
  clear nA
  have nA := nA'
  clear nA'
  have hk := hk'
  clear hk'
  have hz_w2 := hk.size
  go_wp2_with fail
  (with_reducible refine (refShr_to15 n HX.out HZ.out (by omega) _ (IsN.kept nA (by repeat (first | with_reducible exact Kept.refl _ | with_reducible refine Kept.alloc ?_ _ | with_reducible refine Kept.drew ?_ | with_reducible refine Kept.setCell ?_ (by simp only [World.size_alloc, World.size_setCell, World.size_drew]; omega) _))) (by omega)).mono ?_)
  rintro e w3 ⟨vN1, rfl, N1_, hb⟩
  have nA' : IsN w3 v (A) := (IsN.kept nA (by repeat (first | with_reducible exact Kept.refl _ | with_reducible refine Kept.alloc ?_ _ | with_reducible refine Kept.drew ?_ | with_reducible refine Kept.setCell ?_ (by simp only [World.size_alloc, World.size_setCell, World.size_drew]; omega) _))).call hb
  have hk' : Kept w.heap.size w w3 := Kept.step (by repeat (first | with_reducible exact hk | with_reducible exact Kept.refl _ | with_reducible refine Kept.alloc ?_ _ | with_reducible refine Kept.drew ?_ | with_reducible refine Kept.setCell ?_ (by simp only [World.size_alloc, World.size_setCell, World.size_drew]; omega) _)) hb
  clear hk hb
  clear nA
  have nA := nA'
  clear nA'
  have hk := hk'
  clear hk'
  have hz_w3 := hk.size
  have N1 : IsN w3 vN1 (X) := N1_
  clear N1_
  clear nA
  go_wp2_with fail
  (with_reducible refine (calls_to (V := .bool (od)) (refBit_w 0 (by omega) (IsN.kept N1 (by repeat (first | with_reducible exact Kept.refl _ | with_reducible refine Kept.alloc ?_ _ | with_reducible refine Kept.drew ?_ | with_reducible refine Kept.setCell ?_ (by simp only [World.size_alloc, World.size_setCell, World.size_drew]; omega) _))) (by omega)) (by rw [HOD.out])).mono ?_)
  rintro e w4 ⟨rfl, hb⟩
  have N1' : IsN w4 vN1 (X) := (IsN.kept N1 (by repeat (first | with_reducible exact Kept.refl _ | with_reducible refine Kept.alloc ?_ _ | with_reducible refine Kept.drew ?_ | with_reducible refine Kept.setCell ?_ (by simp only [World.size_alloc, World.size_setCell, World.size_drew]; omega) _))).call hb
  have hk' : Kept w.heap.size w w4 := Kept.step (by repeat (first | with_reducible exact hk | with_reducible exact Kept.refl _ | with_reducible refine Kept.alloc ?_ _ | with_reducible refine Kept.drew ?_ | with_reducible refine Kept.setCell ?_ (by simp only [World.size_alloc, World.size_setCell, World.size_drew]; omega) _)) hb
  clear hk hb
  clear N1
  have N1 := N1'
  clear N1'
  have hk := hk'
  clear hk'
  have hz_w4 := hk.size
  go_wp2_with fail
  (with_reducible refine (calls_to (V := .bool true) (refNext15 m neg od r _) (by rw [HUP.out])).mono ?_)
  rintro e w5 ⟨rfl, hb⟩
  have N1' : IsN w5 vN1 (X) := (IsN.kept N1 (by repeat (first | with_reducible exact Kept.refl _ | with_reducible refine Kept.alloc ?_ _ | with_reducible refine Kept.drew ?_ | with_reducible refine Kept.setCell ?_ (by simp only [World.size_alloc, World.size_setCell, World.size_drew]; omega) _))).call hb
  have hk' : Kept w.heap.size w w5 := Kept.step (by repeat (first | with_reducible exact hk | with_reducible exact Kept.refl _ | with_reducible refine Kept.alloc ?_ _ | with_reducible refine Kept.drew ?_ | with_reducible refine Kept.setCell ?_ (by simp only [World.size_alloc, World.size_setCell, World.size_drew]; omega) _)) hb
  clear hk hb
  clear N1
  have N1 := N1'
  clear N1'
  have hk := hk'
  clear hk'
  have hz_w5 := hk.size
  go_wp2_with fail
  (with_reducible refine (refOf_one15 _).mono ?_)
  rintro e w6 ⟨vN2, rfl, N2_, hb⟩
  have N1' : IsN w6 vN1 (X) := (IsN.kept N1 (by repeat (first | with_reducible exact Kept.refl _ | with_reducible refine Kept.alloc ?_ _ | with_reducible refine Kept.drew ?_ | with_reducible refine Kept.setCell ?_ (by simp only [World.size_alloc, World.size_setCell, World.size_drew]; omega) _))).call hb
  have hk' : Kept w.heap.size w w6 := Kept.step (by repeat (first | with_reducible exact hk | with_reducible exact Kept.refl _ | with_reducible refine Kept.alloc ?_ _ | with_reducible refine Kept.drew ?_ | with_reducible refine Kept.setCell ?_ (by simp only [World.size_alloc, World.size_setCell, World.size_drew]; omega) _)) hb
  clear hk hb
  clear N1
  have N1 := N1'
  clear N1'
  have hk := hk'
  clear hk'
  have hz_w6 := hk.size
  have N2 : IsN w6 vN2 (1) := N2_
  clear N2_
  go_wp2_with fail
  (with_reducible refine (refAdd_any _ (IsN.kept N1 (by repeat (first | with_reducible exact Kept.refl _ | with_reducible refine Kept.alloc ?_ _ | with_reducible refine Kept.drew ?_ | with_reducible refine Kept.setCell ?_ (by simp only [World.size_alloc, World.size_setCell, World.size_drew]; omega) _))) (IsN.kept N2 (by repeat (first | with_reducible exact Kept.refl _ | with_reducible refine Kept.alloc ?_ _ | with_reducible refine Kept.drew ?_ | with_reducible refine Kept.setCell ?_ (by simp only [World.size_alloc, World.size_setCell, World.size_drew]; omega) _))) (by omega) (by omega)).mono ?_)
  rintro e w7 ⟨vN3, rfl, N3_, hb⟩
  have N1' : IsN w7 vN1 (X) := (IsN.kept N1 (by repeat (first | with_reducible exact Kept.refl _ | with_reducible refine Kept.alloc ?_ _ | with_reducible refine Kept.drew ?_ | with_reducible refine Kept.setCell ?_ (by simp only [World.size_alloc, World.size_setCell, World.size_drew]; omega) _))).call hb
  have N2' : IsN w7 vN2 (1) := (IsN.kept N2 (by repeat (first | with_reducible exact Kept.refl _ | with_reducible refine Kept.alloc ?_ _ | with_reducible refine Kept.drew ?_ | with_reducible refine Kept.setCell ?_ (by simp only [World.size_alloc, World.size_setCell, World.size_drew]; omega) _))).call hb
  have hk' : Kept w.heap.size w w7 := Kept.step (by repeat (first | with_reducible exact hk | with_reducible exact Kept.refl _ | with_reducible refine Kept.alloc ?_ _ | with_reducible refine Kept.drew ?_ | with_reducible refine Kept.setCell ?_ (by simp only [World.size_alloc, World.size_setCell, World.size_drew]; omega) _)) hb
  clear hk hb
  clear N1
  have N1 := N1'
  clear N1'
  clear N2
  have N2 := N2'
  clear N2'
  have hk := hk'
  clear hk'
  have hz_w7 := hk.size
  have N3 : IsN w7 vN3 (X + 1) := N3_
  clear N3_
  go_wp2
  refine bodyPost_ret (v := .tuple #[vN3, .int .i64 r]) (by simp [results, Try.results30, go_sem]) rfl ⟨_, rfl, IsN.kept N3 (by repeat (first | with_reducible exact Kept.refl _ | with_reducible refine Kept.alloc ?_ _ | with_reducible refine Kept.drew ?_ | with_reducible refine Kept.setCell ?_ (by simp only [World.size_alloc, World.size_setCell, World.size_drew]; omega) _)), ?_⟩
  refine Kept.below ?_; repeat (first | with_reducible exact hk | with_reducible exact Kept.refl _ | with_reducible refine Kept.alloc ?_ _ | with_reducible refine Kept.drew ?_ | with_reducible refine Kept.setCell ?_ (by simp only [World.size_alloc, World.size_setCell, World.size_drew]; omega) _)

set_option maxRecDepth 100000 in
set_option maxHeartbeats 8000000 in
theorem refCut15_f0 {v : Value} {A : Nat} {z m r : Int} {neg od : Bool} (n : Nat) (hz : z = (n : Int)) (n0 : 1 ≤ n) (n1 : n ≤ 256) {w : World} (nA : IsN w v A) (hl : lenN A ≤ 8) (hr : ∀ w v, IsN w v A → Calls Try.prog 63 #[v, .int .i64 z, .bool false] w fun e w' => e = .returned (.int .i64 r) ∧ Below w.heap.size w w') (hL : (n : Int) > ((lenB A : Nat) : Int)) (hod : bitZ 0 0 = od) (hup : nextB m neg od r = false) :
    Calls Try.prog 30 #[v, .int .i64 z, .bool false, .int .u8 m, .bool neg] w fun e w' => ∃ u, e = .returned (.tuple #[u, .int .i64 r]) ∧ IsN w' u (0) ∧ Below w.heap.size w w' := by
  have hk := Kept.refl w
  have HZ := Lib.hid hz
  have z9 : z ≤ 256 := by omega
  have N0 := isN_nil15 w
  have HR := Lib.hid (fun w {v} h => hr w v h)
  have HOD := Lib.hid hod; have HUP := Lib.hid hup
  have k0 : 0 < z := by omega
  have l0 : lenN 0 ≤ 8 := by rw [lenN_zero]; omega
  have l1 : lenN 1 ≤ 1 := lenN_le 1 1 (by decide)
  have k1 : ((lenB A : Nat) : Int) < z := by omega
  clear hz hL hr hod hup
  go_enter Try.func30, Try.ntmps30
  go_wp2_with fail
  (with_reducible refine (HR.out _ (IsN.kept nA (by repeat (first | with_reducible exact Kept.refl _ | with_reducible refine Kept.alloc ?_ _ | with_reducible refine Kept.drew ?_ | with_reducible refine Kept.setCell ?_ (by simp only [World.size_alloc, World.size_setCell, World.size_drew]; omega) _)))).mono ?_)
  rintro e w1 ⟨rfl, hb⟩
  have nA' : IsN w1 v (A) := (IsN.kept nA (by repeat (first | with_reducible exact Kept.refl _ | with_reducible refine Kept.alloc ?_ _ | with_reducible refine Kept.drew ?_ | with_reducible refine Kept.setCell ?_ (by simp only [World.size_alloc, World.size_setCell, World.size_drew]; omega) _))).call hb
  have N0' : IsN w1 (.slice none 0 0) (0) := (IsN.kept N0 (by repeat (first | with_reducible exact Kept.refl _ | with_reducible refine Kept.alloc ?_ _ | with_reducible refine Kept.drew ?_ | with_reducible refine Kept.setCell ?_ (by simp only [World.size_alloc, World.size_setCell, World.size_drew]; omega) _))).call hb
  have hk' : Kept w.heap.size w w1 := Kept.step (by repeat (first | with_reducible exact hk | with_reducible exact Kept.refl _ | with_reducible refine Kept.alloc ?_ _ | with_reducible refine Kept.drew ?_ | with_reducible refine Kept.setCell ?_ (by simp only [World.size_alloc, World.size_setCell, World.size_drew]; omega) _)) hb
  clear hk hb
  clear nA
  have nA := nA'
  clear nA'
  clear N0
  have N0 := N0'
  clear N0'
  have hk := hk'
  clear hk'
  have hz_w1 := hk.size
  go_wp2_with fail
  (with_reducible refine (refLen_w (IsN.kept nA (by repeat (first | with_reducible exact Kept.refl _ | with_reducible refine Kept.alloc ?_ _ | with_reducible refine Kept.drew ?_ | with_reducible refine Kept.setCell ?_ (by simp only [World.size_alloc, World.size_setCell, World.size_drew]; omega) _))) (by omega)).mono ?_)
  rintro e w2 ⟨rfl, hb⟩
  have nA' : IsN w2 v (A) := (IsN.kept nA (by repeat (first | with_reducible exact Kept.refl _ | with_reducible refine Kept.alloc ?_ _ | with_reducible refine Kept.drew ?_ | with_reducible refine Kept.setCell ?_ (by simp only [World.size_alloc, World.size_setCell, World.size_drew]; omega) _))).call hb
  have N0' : IsN w2 (.slice none 0 0) (0) := (IsN.kept N0 (by repeat (first | with_reducible exact Kept.refl _ | with_reducible refine Kept.alloc ?_ _ | with_reducible refine Kept.drew ?_ | with_reducible refine Kept.setCell ?_ (by simp only [World.size_alloc, World.size_setCell, World.size_drew]; omega) _))).call hb
  have hk' : Kept w.heap.size w w2 := Kept.step (by repeat (first | with_reducible exact hk | with_reducible exact Kept.refl _ | with_reducible refine Kept.alloc ?_ _ | with_reducible refine Kept.drew ?_ | with_reducible refine Kept.setCell ?_ (by simp only [World.size_alloc, World.size_setCell, World.size_drew]; omega) _)) hb
  clear hk hb
  clear nA
  have nA := nA'
  clear nA'
  clear N0
  have N0 := N0'
  clear N0'
  have hk := hk'
  clear hk'
  have hz_w2 := hk.size
  clear nA
  go_wp2_with fail
  (with_reducible refine (calls_to (V := .bool (od)) (refBit_w 0 (by omega) (IsN.kept N0 (by repeat (first | with_reducible exact Kept.refl _ | with_reducible refine Kept.alloc ?_ _ | with_reducible refine Kept.drew ?_ | with_reducible refine Kept.setCell ?_ (by simp only [World.size_alloc, World.size_setCell, World.size_drew]; omega) _))) (by omega)) (by rw [HOD.out])).mono ?_)
  rintro e w3 ⟨rfl, hb⟩
  have N0' : IsN w3 (.slice none 0 0) (0) := (IsN.kept N0 (by repeat (first | with_reducible exact Kept.refl _ | with_reducible refine Kept.alloc ?_ _ | with_reducible refine Kept.drew ?_ | with_reducible refine Kept.setCell ?_ (by simp only [World.size_alloc, World.size_setCell, World.size_drew]; omega) _))).call hb
  have hk' : Kept w.heap.size w w3 := Kept.step (by repeat (first | with_reducible exact hk | with_reducible exact Kept.refl _ | with_reducible refine Kept.alloc ?_ _ | with_reducible refine Kept.drew ?_ | with_reducible refine Kept.setCell ?_ (by simp only [World.size_alloc, World.size_setCell, World.size_drew]; omega) _)) hb
  clear hk hb
  clear N0
  have N0 := N0'
  clear N0'
  have hk := hk'
  clear hk'
  have hz_w3 := hk.size
  go_wp2_with fail
  (with_reducible refine (calls_to (V := .bool false) (refNext15 m neg od r _) (by rw [HUP.out])).mono ?_)
  rintro e w4 ⟨rfl, hb⟩
  have N0' : IsN w4 (.slice none 0 0) (0) := (IsN.kept N0 (by repeat (first | with_reducible exact Kept.refl _ | with_reducible refine Kept.alloc ?_ _ | with_reducible refine Kept.drew ?_ | with_reducible refine Kept.setCell ?_ (by simp only [World.size_alloc, World.size_setCell, World.size_drew]; omega) _))).call hb
  have hk' : Kept w.heap.size w w4 := Kept.step (by repeat (first | with_reducible exact hk | with_reducible exact Kept.refl _ | with_reducible refine Kept.alloc ?_ _ | with_reducible refine Kept.drew ?_ | with_reducible refine Kept.setCell ?_ (by simp only [World.size_alloc, World.size_setCell, World.size_drew]; omega) _)) hb
  clear hk hb
  clear N0
  have N0 := N0'
  clear N0'
  have hk := hk'
  clear hk'
  have hz_w4 := hk.size
  go_wp2
  refine bodyPost_ret (v := .tuple #[(.slice none 0 0), .int .i64 r]) (by simp [results, Try.results30, go_sem]) rfl ⟨_, rfl, IsN.kept N0 (by repeat (first | with_reducible exact Kept.refl _ | with_reducible refine Kept.alloc ?_ _ | with_reducible refine Kept.drew ?_ | with_reducible refine Kept.setCell ?_ (by simp only [World.size_alloc, World.size_setCell, World.size_drew]; omega) _)), ?_⟩
  refine Kept.below ?_; repeat (first | with_reducible exact hk | with_reducible exact Kept.refl _ | with_reducible refine Kept.alloc ?_ _ | with_reducible refine Kept.drew ?_ | with_reducible refine Kept.setCell ?_ (by simp only [World.size_alloc, World.size_setCell, World.size_drew]; omega) _)

set_option maxRecDepth 100000 in
set_option maxHeartbeats 8000000 in
theorem refCut15_f1 {v : Value} {A : Nat} {z m r : Int} {neg od : Bool} (n : Nat) (hz : z = (n : Int)) (n0 : 1 ≤ n) (n1 : n ≤ 256) {w : World} (nA : IsN w v A) (hl : lenN A ≤ 8) (hr : ∀ w v, IsN w v A → Calls Try.prog 63 #[v, .int .i64 z, .bool false] w fun e w' => e = .returned (.int .i64 r) ∧ Below w.heap.size w w') (hL : (n : Int) > ((lenB A : Nat) : Int)) (hod : bitZ 0 0 = od) (hup : nextB m neg od r = true) :
    Calls Try.prog 30 #[v, .int .i64 z, .bool false, .int .u8 m, .bool neg] w fun e w' => ∃ u, e = .returned (.tuple #[u, .int .i64 r]) ∧ IsN w' u (0 + 1) ∧ Below w.heap.size w w' := by
  have hk := Kept.refl w
  have HZ := Lib.hid hz
  have z9 : z ≤ 256 := by omega
  have N0 := isN_nil15 w
  have HR := Lib.hid (fun w {v} h => hr w v h)
  have HOD := Lib.hid hod; have HUP := Lib.hid hup
  have k0 : 0 < z := by omega
  have l0 : lenN 0 ≤ 8 := by rw [lenN_zero]; omega
  have l1 : lenN 1 ≤ 1 := lenN_le 1 1 (by decide)
  have k1 : ((lenB A : Nat) : Int) < z := by omega
  clear hz hL hr hod hup
  go_enter Try.func30, Try.ntmps30
  go_wp2_with fail
  (with_reducible refine (HR.out _ (IsN.kept nA (by repeat (first | with_reducible exact Kept.refl _ | with_reducible refine Kept.alloc ?_ _ | with_reducible refine Kept.drew ?_ | with_reducible refine Kept.setCell ?_ (by simp only [World.size_alloc, World.size_setCell, World.size_drew]; omega) _)))).mono ?_)
  rintro e w1 ⟨rfl, hb⟩
  have nA' : IsN w1 v (A) := (IsN.kept nA (by repeat (first | with_reducible exact Kept.refl _ | with_reducible refine Kept.alloc ?_ _ | with_reducible refine Kept.drew ?_ | with_reducible refine Kept.setCell ?_ (by simp only [World.size_alloc, World.size_setCell, World.size_drew]; omega) _))).call hb
  have N0' : IsN w1 (.slice none 0 0) (0) := (IsN.kept N0 (by repeat (first | with_reducible exact Kept.refl _ | with_reducible refine Kept.alloc ?_ _ | with_reducible refine Kept.drew ?_ | with_reducible refine Kept.setCell ?_ (by simp only [World.size_alloc, World.size_setCell, World.size_drew]; omega) _))).call hb
  have hk' : Kept w.heap.size w w1 := Kept.step (by repeat (first | with_reducible exact hk | with_reducible exact Kept.refl _ | with_reducible refine Kept.alloc ?_ _ | with_reducible refine Kept.drew ?_ | with_reducible refine Kept.setCell ?_ (by simp only [World.size_alloc, World.size_setCell, World.size_drew]; omega) _)) hb
  clear hk hb
  clear nA
  have nA := nA'
  clear nA'
  clear N0
  have N0 := N0'
  clear N0'
  have hk := hk'
  clear hk'
  have hz_w1 := hk.size
  go_wp2_with fail
  (with_reducible refine (refLen_w (IsN.kept nA (by repeat (first | with_reducible exact Kept.refl _ | with_reducible refine Kept.alloc ?_ _ | with_reducible refine Kept.drew ?_ | with_reducible refine Kept.setCell ?_ (by simp only [World.size_alloc, World.size_setCell, World.size_drew]; omega) _))) (by omega)).mono ?_)
  rintro e w2 ⟨rfl, hb⟩
  have nA' : IsN w2 v (A) := (IsN.kept nA (by repeat (first | with_reducible exact Kept.refl _ | with_reducible refine Kept.alloc ?_ _ | with_reducible refine Kept.drew ?_ | with_reducible refine Kept.setCell ?_ (by simp only [World.size_alloc, World.size_setCell, World.size_drew]; omega) _))).call hb
  have N0' : IsN w2 (.slice none 0 0) (0) := (IsN.kept N0 (by repeat (first | with_reducible exact Kept.refl _ | with_reducible refine Kept.alloc ?_ _ | with_reducible refine Kept.drew ?_ | with_reducible refine Kept.setCell ?_ (by simp only [World.size_alloc, World.size_setCell, World.size_drew]; omega) _))).call hb
  have hk' : Kept w.heap.size w w2 := Kept.step (by repeat (first | with_reducible exact hk | with_reducible exact Kept.refl _ | with_reducible refine Kept.alloc ?_ _ | with_reducible refine Kept.drew ?_ | with_reducible refine Kept.setCell ?_ (by simp only [World.size_alloc, World.size_setCell, World.size_drew]; omega) _)) hb
  clear hk hb
  clear nA
  have nA := nA'
  clear nA'
  clear N0
  have N0 := N0'
  clear N0'
  have hk := hk'
  clear hk'
  have hz_w2 := hk.size
  clear nA
  go_wp2_with fail
  (with_reducible refine (calls_to (V := .bool (od)) (refBit_w 0 (by omega) (IsN.kept N0 (by repeat (first | with_reducible exact Kept.refl _ | with_reducible refine Kept.alloc ?_ _ | with_reducible refine Kept.drew ?_ | with_reducible refine Kept.setCell ?_ (by simp only [World.size_alloc, World.size_setCell, World.size_drew]; omega) _))) (by omega)) (by rw [HOD.out])).mono ?_)
  rintro e w3 ⟨rfl, hb⟩
  have N0' : IsN w3 (.slice none 0 0) (0) := (IsN.kept N0 (by repeat (first | with_reducible exact Kept.refl _ | with_reducible refine Kept.alloc ?_ _ | with_reducible refine Kept.drew ?_ | with_reducible refine Kept.setCell ?_ (by simp only [World.size_alloc, World.size_setCell, World.size_drew]; omega) _))).call hb
  have hk' : Kept w.heap.size w w3 := Kept.step (by repeat (first | with_reducible exact hk | with_reducible exact Kept.refl _ | with_reducible refine Kept.alloc ?_ _ | with_reducible refine Kept.drew ?_ | with_reducible refine Kept.setCell ?_ (by simp only [World.size_alloc, World.size_setCell, World.size_drew]; omega) _)) hb
  clear hk hb
  clear N0
  have N0 := N0'
  clear N0'
  have hk := hk'
  clear hk'
  have hz_w3 := hk.size
  go_wp2_with fail
  (with_reducible refine (calls_to (V := .bool true) (refNext15 m neg od r _) (by rw [HUP.out])).mono ?_)
  rintro e w4 ⟨rfl, hb⟩
  have N0' : IsN w4 (.slice none 0 0) (0) := (IsN.kept N0 (by repeat (first | with_reducible exact Kept.refl _ | with_reducible refine Kept.alloc ?_ _ | with_reducible refine Kept.drew ?_ | with_reducible refine Kept.setCell ?_ (by simp only [World.size_alloc, World.size_setCell, World.size_drew]; omega) _))).call hb
  have hk' : Kept w.heap.size w w4 := Kept.step (by repeat (first | with_reducible exact hk | with_reducible exact Kept.refl _ | with_reducible refine Kept.alloc ?_ _ | with_reducible refine Kept.drew ?_ | with_reducible refine Kept.setCell ?_ (by simp only [World.size_alloc, World.size_setCell, World.size_drew]; omega) _)) hb
  clear hk hb
  clear N0
  have N0 := N0'
  clear N0'
  have hk := hk'
  clear hk'
  have hz_w4 := hk.size
  go_wp2_with fail
  (with_reducible refine (refOf_one15 _).mono ?_)
  rintro e w5 ⟨vN1, rfl, N1_, hb⟩
  have N0' : IsN w5 (.slice none 0 0) (0) := (IsN.kept N0 (by repeat (first | with_reducible exact Kept.refl _ | with_reducible refine Kept.alloc ?_ _ | with_reducible refine Kept.drew ?_ | with_reducible refine Kept.setCell ?_ (by simp only [World.size_alloc, World.size_setCell, World.size_drew]; omega) _))).call hb
  have hk' : Kept w.heap.size w w5 := Kept.step (by repeat (first | with_reducible exact hk | with_reducible exact Kept.refl _ | with_reducible refine Kept.alloc ?_ _ | with_reducible refine Kept.drew ?_ | with_reducible refine Kept.setCell ?_ (by simp only [World.size_alloc, World.size_setCell, World.size_drew]; omega) _)) hb
  clear hk hb
  clear N0
  have N0 := N0'
  clear N0'
  have hk := hk'
  clear hk'
  have hz_w5 := hk.size
  have N1 : IsN w5 vN1 (1) := N1_
  clear N1_
  go_wp2_with fail
  (with_reducible refine (refAdd_any _ (IsN.kept N0 (by repeat (first | with_reducible exact Kept.refl _ | with_reducible refine Kept.alloc ?_ _ | with_reducible refine Kept.drew ?_ | with_reducible refine Kept.setCell ?_ (by simp only [World.size_alloc, World.size_setCell, World.size_drew]; omega) _))) (IsN.kept N1 (by repeat (first | with_reducible exact Kept.refl _ | with_reducible refine Kept.alloc ?_ _ | with_reducible refine Kept.drew ?_ | with_reducible refine Kept.setCell ?_ (by simp only [World.size_alloc, World.size_setCell, World.size_drew]; omega) _))) (by omega) (by omega)).mono ?_)
  rintro e w6 ⟨vN2, rfl, N2_, hb⟩
  have N0' : IsN w6 (.slice none 0 0) (0) := (IsN.kept N0 (by repeat (first | with_reducible exact Kept.refl _ | with_reducible refine Kept.alloc ?_ _ | with_reducible refine Kept.drew ?_ | with_reducible refine Kept.setCell ?_ (by simp only [World.size_alloc, World.size_setCell, World.size_drew]; omega) _))).call hb
  have N1' : IsN w6 vN1 (1) := (IsN.kept N1 (by repeat (first | with_reducible exact Kept.refl _ | with_reducible refine Kept.alloc ?_ _ | with_reducible refine Kept.drew ?_ | with_reducible refine Kept.setCell ?_ (by simp only [World.size_alloc, World.size_setCell, World.size_drew]; omega) _))).call hb
  have hk' : Kept w.heap.size w w6 := Kept.step (by repeat (first | with_reducible exact hk | with_reducible exact Kept.refl _ | with_reducible refine Kept.alloc ?_ _ | with_reducible refine Kept.drew ?_ | with_reducible refine Kept.setCell ?_ (by simp only [World.size_alloc, World.size_setCell, World.size_drew]; omega) _)) hb
  clear hk hb
  clear N0
  have N0 := N0'
  clear N0'
  clear N1
  have N1 := N1'
  clear N1'
  have hk := hk'
  clear hk'
  have hz_w6 := hk.size
  have N2 : IsN w6 vN2 (0 + 1) := N2_
  clear N2_
  go_wp2
  refine bodyPost_ret (v := .tuple #[vN2, .int .i64 r]) (by simp [results, Try.results30, go_sem]) rfl ⟨_, rfl, IsN.kept N2 (by repeat (first | with_reducible exact Kept.refl _ | with_reducible refine Kept.alloc ?_ _ | with_reducible refine Kept.drew ?_ | with_reducible refine Kept.setCell ?_ (by simp only [World.size_alloc, World.size_setCell, World.size_drew]; omega) _)), ?_⟩
  refine Kept.below ?_; repeat (first | with_reducible exact hk | with_reducible exact Kept.refl _ | with_reducible refine Kept.alloc ?_ _ | with_reducible refine Kept.drew ?_ | with_reducible refine Kept.setCell ?_ (by simp only [World.size_alloc, World.size_setCell, World.size_drew]; omega) _)

theorem refCut15_any {v : Value} {W : Nat} {k z m : Int} {neg : Bool} (hW : W256 W) (h0 : 0 ≤ k) (h1 : k ≤ 127) (hz : z = 256 - k) {w : World} (nA : IsN w v W) :
    Calls Try.prog 30 #[v, .int .i64 z, .bool false, .int .u8 m, .bool neg] w fun e w' => ∃ u, e = .returned (.tuple #[u, .int .i64 (restI W k)]) ∧ IsN w' u (cutN W k m neg) ∧ Below w.heap.size w w' := by
  obtain ⟨j, hj⟩ : ∃ j : Nat, 256 - k = ((j + 1 : Nat) : Int) := ⟨(255 - k).toNat, by omega⟩
  have hl := len256 hW
  have hzn : z = ((j + 1 : Nat) : Int) := by omega
  have hr := fun w v (h : IsN w v W) => refRest15_any hW h0 h1 hz h
  have hf : floorN W k = W / 2 ^ (j + 1) := by unfold floorN rightN; rw [hj, Int.toNat_natCast]
  have hb : ∀ F : Nat, bitZ F 0 = oddB F := fun F => by unfold bitZ oddB; simp [Nat.testBit_zero]
  have hd := lenN_div (A := W) (n := j + 1)
  by_cases hL : ((j + 1 : Nat) : Int) ≤ ((lenB W : Nat) : Int)
  · cases hu : nextB m neg (oddB (floorN W k)) (restI W k) with
    | true =>
      rw [cut_up (W := W) (k := k) (m := m) (neg := neg) hu, hf]
      exact refCut15_n1 (j + 1) hzn (by omega) (by omega) nA hl hr hL rfl (by omega) (hb _) (by rw [← hf]; exact hu)
    | false =>
      rw [cut_no (W := W) (k := k) (m := m) (neg := neg) hu, hf]
      exact refCut15_n0 (j + 1) hzn (by omega) (by omega) nA hl hr hL rfl (by omega) (hb _) (by rw [← hf]; exact hu)
  · have hlt : W < 2 ^ (j + 1) := Nat.lt_of_lt_of_le (lt_lenB W) (Nat.pow_le_pow_right (by omega) (by omega))
    have hz0 : floorN W k = 0 := by rw [hf, Nat.div_eq_of_lt hlt]
    cases hu : nextB m neg (oddB (floorN W k)) (restI W k) with
    | true =>
      rw [cut_up (W := W) (k := k) (m := m) (neg := neg) hu, hz0]
      exact refCut15_f1 (j + 1) hzn (by omega) (by omega) nA hl hr (by omega) (hb _) (by rw [← hz0]; exact hu)
    | false =>
      rw [cut_no (W := W) (k := k) (m := m) (neg := neg) hu, hz0]
      exact refCut15_f0 (j + 1) hzn (by omega) (by omega) nA hl hr (by omega) (hb _) (by rw [← hz0]; exact hu)
end Go.Proofs.Ytglagdmfplgfaaa
