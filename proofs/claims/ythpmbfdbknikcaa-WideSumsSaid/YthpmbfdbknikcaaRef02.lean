/- The references of layer 2: contracts. -/
import Derived.Test.YthpmbfdbknikcaaRefAll
import Derived.Test.YthpmbfdbknikcaaRegionG
import Derived.Test.YthpmbfdbknikcaaNum2
import Derived.Test.YthpmbfdbknikcaaWideMul
set_option linter.unusedVariables false
set_option linter.unusedSimpArgs false
namespace Go.Proofs.Ythpmbfdbknikcaa
open Go.RowKit

set_option maxRecDepth 100000 in
set_option maxHeartbeats 8000000 in
theorem ref02Add_true {A B : Nat} (hA : W256 A) (hB : W256 B) (h : carry256 A B = true) (w : World) :
    Calls Try.prog 41 #[wideV A, wideV B] w fun e w' => e = .returned (.tuple #[wideV (add256 A B), .bool true]) ∧ Below w.heap.size w w' := by
  have hk := Kept.refl w
  have HL := Lib.hid (show wideV (A + B) = wideV (add256 A B) from wide_mod (by unfold add256; omega))
  have g1 : (256 : Int) < ((lenB (A + B) : Nat) : Int) := by
    have := hA.lt; have := hB.lt
    have h1 := @lenB_gt (A + B) 256
    unfold carry256 at h
    have h2 := of_decide_eq_true h
    omega
  have lf0 := len256 (IsWide.of hA).w
  have lf1 := len256 (IsWide.of hB).w
  have lf2 := lenN_add A B
  go_enter Try.func41, Try.ntmps41
  go_wp2
  refine wp_region_g 6 (fun W' => Kept w.heap.size w W' ∧ w.heap.size + 1 + 1 + 1 ≤ W'.heap.size ∧ Box W' (w.heap.size) #[.int .u64 (limb 0 A), .int .u64 (limb 1 A), .int .u64 (limb 2 A), .int .u64 (limb 3 A)] ∧ Box W' (w.heap.size + 1) #[.int .u64 (limb 0 B), .int .u64 (limb 1 B), .int .u64 (limb 2 B), .int .u64 (limb 3 B)] ∧ Box W' (w.heap.size + 1 + 1) #[.int .u64 0, .int .u64 0, .int .u64 0, .int .u64 0]) (fun W' => Kept w.heap.size w W' ∧ w.heap.size + 1 + 1 + 1 ≤ W'.heap.size ∧ Box W' (w.heap.size) #[.int .u64 (limb 0 A), .int .u64 (limb 1 A), .int .u64 (limb 2 A), .int .u64 (limb 3 A)] ∧ Box W' (w.heap.size + 1) #[.int .u64 (limb 0 B), .int .u64 (limb 1 B), .int .u64 (limb 2 B), .int .u64 (limb 3 B)] ∧ Box W' (w.heap.size + 1 + 1) #[.int .u64 0, .int .u64 0, .int .u64 0, .int .u64 0]) 1000 (w.heap.size + 1 + 1 + 1) [.known (wideV A), .num (A), .known (wideV B), .num (B), .num (A + B), .num (A + B)] (by kernel_rfl) (by kernel_rfl) (fun W W' h hb => ⟨h.1.step hb, Nat.le_trans (h.2.1) hb.size, Box.call hb (h.2.2.1), Box.call hb (h.2.2.2.1), Box.call hb (h.2.2.2.2)⟩) (fun W W' h hb => ⟨h.1.step hb, Nat.le_trans (h.2.1) hb.size, Box.call hb (h.2.2.1), Box.call hb (h.2.2.2.1), Box.call hb (h.2.2.2.2)⟩) (no_out (of_decide_eq_true (by kernel_rfl))) (.inl (by kernel_rfl)) (.inl (by kernel_rfl)) (fun _ h => h.2.1) (fun _ h => h.2.1) (⟨(by repeat (first | with_reducible exact hk | with_reducible exact Kept.refl _ | with_reducible refine Kept.alloc ?_ _ | with_reducible refine Kept.drew ?_ | with_reducible refine Kept.setCell ?_ (by simp only [World.size_alloc, World.size_setCell, World.size_drew]; omega) _)), (by (try simp only [World.size_alloc, World.size_setCell, World.size_drew]); omega), (by repeat (first | with_reducible assumption | with_reducible apply Box.set10 | with_reducible apply Box.set20 | with_reducible apply Box.set21 | with_reducible apply Box.set40 | with_reducible apply Box.set41 | with_reducible apply Box.set42 | with_reducible apply Box.set43 | with_reducible apply Box.set50 | with_reducible apply Box.set51 | with_reducible apply Box.set52 | with_reducible apply Box.set53 | with_reducible apply Box.set54 | with_reducible apply Box.drew | (with_reducible apply Box.newAt; (try simp only [World.size_alloc, World.size_setCell, World.size_drew]); done) | with_reducible apply Box.alloc | (with_reducible apply Box.other; case hne => ((try simp only [World.size_alloc, World.size_setCell, World.size_drew]); omega)))), (by repeat (first | with_reducible assumption | with_reducible apply Box.set10 | with_reducible apply Box.set20 | with_reducible apply Box.set21 | with_reducible apply Box.set40 | with_reducible apply Box.set41 | with_reducible apply Box.set42 | with_reducible apply Box.set43 | with_reducible apply Box.set50 | with_reducible apply Box.set51 | with_reducible apply Box.set52 | with_reducible apply Box.set53 | with_reducible apply Box.set54 | with_reducible apply Box.drew | (with_reducible apply Box.newAt; (try simp only [World.size_alloc, World.size_setCell, World.size_drew]); done) | with_reducible apply Box.alloc | (with_reducible apply Box.other; case hne => ((try simp only [World.size_alloc, World.size_setCell, World.size_drew]); omega)))), (by repeat (first | with_reducible assumption | with_reducible apply Box.set10 | with_reducible apply Box.set20 | with_reducible apply Box.set21 | with_reducible apply Box.set40 | with_reducible apply Box.set41 | with_reducible apply Box.set42 | with_reducible apply Box.set43 | with_reducible apply Box.set50 | with_reducible apply Box.set51 | with_reducible apply Box.set52 | with_reducible apply Box.set53 | with_reducible apply Box.set54 | with_reducible apply Box.drew | (with_reducible apply Box.newAt; (try simp only [World.size_alloc, World.size_setCell, World.size_drew]); done) | with_reducible apply Box.alloc | (with_reducible apply Box.other; case hne => ((try simp only [World.size_alloc, World.size_setCell, World.size_drew]); omega))))⟩) ?_
  clear hk
  intro ρ
  simp only [List.take_succ_cons, List.take_zero, List.drop_succ_cons, List.drop_zero]
  refine ⟨?_, ?_⟩
  · as_aux_lemma =>
    intro y_ hS_ hO_ hD
    have Q := ((hS_ (by rfl)).2.2.1).cell
    have q0 := Q 0 _ rfl
    have q1 := Q 1 _ rfl
    have q2 := Q 2 _ rfl
    have q3 := Q 3 _ rfl
    clear Q hS_ hO_ hD
    refine s_gen (V := wideV A) [.pointer (some ⟨w.heap.size, 0, none⟩)] (by kernel_rfl) (by kernel_rfl) (by kernel_rfl) ?_
    intro r_ hr_
    have o0_ : r_ (.tmp 2) = .pointer (some ⟨w.heap.size, 0, none⟩) := op_at hr_ 0 (by kernel_rfl) (by kernel_rfl)
    clear hr_
    go_simp; first | done | with_reducible rfl
  simp only [Act.put, planVG, List.setIfInBounds_toArray, List.set_cons_zero, List.set_cons_succ, List.getElem?_cons_zero, List.getElem?_cons_succ]
  refine ⟨?_, ?_⟩
  · as_aux_lemma =>
    intro y_ hS_ hO_ hD
    try clear hS
    clear hS_ hO_ hD
    refine s_gcallN (A := A) [.func (.func 13) #[] #[], wideV A] ?_ ?_ (by kernel_rfl) (by kernel_rfl) (by kernel_rfl) ?_ ?_
    rotate_left 2
    · intro r_ hr_
      have o0_ : r_ (.func 13) = .func (.func 13) #[] #[] := op_at hr_ 0 (by kernel_rfl) (by kernel_rfl)
      have o1_ : r_ (.tmp 7) = wideV A := op_at hr_ 1 (by kernel_rfl) (by kernel_rfl)
      clear hr_
      go_simp; first | done | with_reducible rfl | (constructor <;> with_reducible rfl)
    · refine refWide_any (IsWide.of hA).w _
  simp only [Act.put, planVG, List.setIfInBounds_toArray, List.set_cons_zero, List.set_cons_succ, List.getElem?_cons_zero, List.getElem?_cons_succ]
  refine ⟨?_, ?_⟩
  · as_aux_lemma =>
    intro y_ hS_ hO_ hD
    have Q := ((hS_ (by rfl)).2.2.2.1).cell
    have q0 := Q 0 _ rfl
    have q1 := Q 1 _ rfl
    have q2 := Q 2 _ rfl
    have q3 := Q 3 _ rfl
    clear Q hS_ hO_ hD
    refine s_gen (V := wideV B) [.pointer (some ⟨w.heap.size + 1, 0, none⟩)] (by kernel_rfl) (by kernel_rfl) (by kernel_rfl) ?_
    intro r_ hr_
    have o0_ : r_ (.tmp 3) = .pointer (some ⟨w.heap.size + 1, 0, none⟩) := op_at hr_ 0 (by kernel_rfl) (by kernel_rfl)
    clear hr_
    go_simp; first | done | with_reducible rfl
  simp only [Act.put, planVG, List.setIfInBounds_toArray, List.set_cons_zero, List.set_cons_succ, List.getElem?_cons_zero, List.getElem?_cons_succ]
  refine ⟨?_, ?_⟩
  · as_aux_lemma =>
    intro y_ hS_ hO_ hD
    try clear hS
    clear hS_ hO_ hD
    refine s_gcallN (A := B) [.func (.func 13) #[] #[], wideV B] ?_ ?_ (by kernel_rfl) (by kernel_rfl) (by kernel_rfl) ?_ ?_
    rotate_left 2
    · intro r_ hr_
      have o0_ : r_ (.func 13) = .func (.func 13) #[] #[] := op_at hr_ 0 (by kernel_rfl) (by kernel_rfl)
      have o1_ : r_ (.tmp 9) = wideV B := op_at hr_ 1 (by kernel_rfl) (by kernel_rfl)
      clear hr_
      go_simp; first | done | with_reducible rfl | (constructor <;> with_reducible rfl)
    · refine refWide_any (IsWide.of hB).w _
  simp only [Act.put, planVG, List.setIfInBounds_toArray, List.set_cons_zero, List.set_cons_succ, List.getElem?_cons_zero, List.getElem?_cons_succ]
  refine ⟨?_, ?_⟩
  · as_aux_lemma =>
    intro y_ hS_ hO_ hD
    have n_1 : IsN y_ (ρ 1) (A) := hD 1 (by decide) (by rfl)
    have n_3 : IsN y_ (ρ 3) (B) := hD 3 (by decide) (by rfl)
    try clear hS
    clear hS_ hO_ hD
    refine s_gcallN (A := A + B) [.func (.func 14) #[] #[], ρ 1, ρ 3] ?_ ?_ (by kernel_rfl) (by kernel_rfl) (by kernel_rfl) ?_ ?_
    rotate_left 2
    · intro r_ hr_
      have o0_ : r_ (.func 14) = .func (.func 14) #[] #[] := op_at hr_ 0 (by kernel_rfl) (by kernel_rfl)
      have o1_ : r_ (.tmp 8) = ρ 1 := op_at hr_ 1 (by kernel_rfl) (by kernel_rfl)
      have o2_ : r_ (.tmp 10) = ρ 3 := op_at hr_ 2 (by kernel_rfl) (by kernel_rfl)
      clear hr_
      go_simp; first | done | with_reducible rfl | (constructor <;> with_reducible rfl)
    · refine refAdd_any _ n_1 n_3 (by omega) (by omega)
  simp only [Act.put, planVG, List.setIfInBounds_toArray, List.set_cons_zero, List.set_cons_succ, List.getElem?_cons_zero, List.getElem?_cons_succ]
  refine ⟨?_, ?_⟩
  · as_aux_lemma =>
    intro y_ hS_ hO_ hD
    have hS := hS_ (by rfl)
    have n_ : IsN y_ (ρ 4) (A + B) := hD 4 (by decide) (by rfl)
    clear hS hS_ hO_ hD
    exact s_num (by rfl) (by rfl) (by rfl) n_
  simp only [Act.put, planVG, List.setIfInBounds_toArray, List.set_cons_zero, List.set_cons_succ, List.getElem?_cons_zero, List.getElem?_cons_succ]
  as_aux_lemma =>
    intro w1 hS hF hD_
    change wpList _ _ _ _ _ _
    replace hS := sg_no (by decide) hS
    obtain ⟨hk, hZ1, X1, X2, X3⟩ := hS
    have M1 : IsN w1 (ρ 1) (A) := hF 1 (by decide)
    have M3 : IsN w1 (ρ 3) (B) := hF 3 (by decide)
    have M4 : IsN w1 (ρ 4) (A + B) := hF 4 (by decide)
    have M5 : IsN w1 (ρ 5) (A + B) := hF 5 (by decide)
    clear hF hD_
    generalize ρ 1 = u1_1 at *
    generalize ρ 3 = u1_3 at *
    generalize ρ 4 = u1_4 at *
    generalize ρ 5 = u1_5 at *
    clear ρ
    have hz_w1 := hk.size
    have X1l := X1.lt
    have X1f := X1.free
    have X1l1 : w.heap.size < w1.heap.size + 1 := by omega
    have X1l2 : w.heap.size < w1.heap.size + 1 + 1 := by omega
    have X1l3 : w.heap.size < w1.heap.size + 1 + 1 + 1 := by omega
    have X10 := X1.cell 0 _ rfl
    have X11 := X1.cell 1 _ rfl
    have X12 := X1.cell 2 _ rfl
    have X13 := X1.cell 3 _ rfl
    have X2l := X2.lt
    have X2f := X2.free
    have X2l1 : w.heap.size + 1 < w1.heap.size + 1 := by omega
    have X2l2 : w.heap.size + 1 < w1.heap.size + 1 + 1 := by omega
    have X2l3 : w.heap.size + 1 < w1.heap.size + 1 + 1 + 1 := by omega
    have X20 := X2.cell 0 _ rfl
    have X21 := X2.cell 1 _ rfl
    have X22 := X2.cell 2 _ rfl
    have X23 := X2.cell 3 _ rfl
    have X3l := X3.lt
    have X3f := X3.free
    have X3l1 : w.heap.size + 1 + 1 < w1.heap.size + 1 := by omega
    have X3l2 : w.heap.size + 1 + 1 < w1.heap.size + 1 + 1 := by omega
    have X3l3 : w.heap.size + 1 + 1 < w1.heap.size + 1 + 1 + 1 := by omega
    have X30 := X3.cell 0 _ rfl
    have X31 := X3.cell 1 _ rfl
    have X32 := X3.cell 2 _ rfl
    have X33 := X3.cell 3 _ rfl
    clear M1
    clear M3
    clear M4
    have N4 := M5
    clear M5
    go_wp2_with fail
    (with_reducible refine (Low_eq HL.out _ (IsN.kept N4 (by repeat (first | with_reducible exact Kept.refl _ | with_reducible refine Kept.alloc ?_ _ | with_reducible refine Kept.drew ?_ | with_reducible refine Kept.setCell ?_ (by simp only [World.size_alloc, World.size_setCell, World.size_drew]; omega) _))) (by omega)).mono ?_)
    rintro e w2 ⟨rfl, hb⟩
    have X3' : Box w2 (w.heap.size + 1 + 1) #[.int .u64 0, .int .u64 0, .int .u64 0, .int .u64 0] := Box.call hb (by repeat (first | with_reducible assumption | with_reducible apply Box.set10 | with_reducible apply Box.set20 | with_reducible apply Box.set21 | with_reducible apply Box.set40 | with_reducible apply Box.set41 | with_reducible apply Box.set42 | with_reducible apply Box.set43 | with_reducible apply Box.set50 | with_reducible apply Box.set51 | with_reducible apply Box.set52 | with_reducible apply Box.set53 | with_reducible apply Box.set54 | with_reducible apply Box.drew | (with_reducible apply Box.newAt; (try simp only [World.size_alloc, World.size_setCell, World.size_drew]); done) | with_reducible apply Box.alloc | (with_reducible apply Box.other; case hne => ((try simp only [World.size_alloc, World.size_setCell, World.size_drew]); omega))))
    have N4' : IsN w2 u1_5 (A + B) := (IsN.kept N4 (by repeat (first | with_reducible exact Kept.refl _ | with_reducible refine Kept.alloc ?_ _ | with_reducible refine Kept.drew ?_ | with_reducible refine Kept.setCell ?_ (by simp only [World.size_alloc, World.size_setCell, World.size_drew]; omega) _))).call hb
    have hk' : Kept w.heap.size w w2 := Kept.step (by repeat (first | with_reducible exact hk | with_reducible exact Kept.refl _ | with_reducible refine Kept.alloc ?_ _ | with_reducible refine Kept.drew ?_ | with_reducible refine Kept.setCell ?_ (by simp only [World.size_alloc, World.size_setCell, World.size_drew]; omega) _)) hb
    clear hk hb
    clear X1 X1l1 X1l2 X1l3 X1f X10 X11 X12 X13
    clear X2 X2l1 X2l2 X2l3 X2f X20 X21 X22 X23
    clear X3 X3l1 X3l2 X3l3 X3f X30 X31 X32 X33
    have X3 := X3'
    clear X3'
    clear N4
    have N4 := N4'
    clear N4'
    have hk := hk'
    clear hk'
    have hz_w2 := hk.size
    have X3l := X3.lt
    have X3f := X3.free
    have X3l1 : w.heap.size + 1 + 1 < w2.heap.size + 1 := by omega
    have X3l2 : w.heap.size + 1 + 1 < w2.heap.size + 1 + 1 := by omega
    have X3l3 : w.heap.size + 1 + 1 < w2.heap.size + 1 + 1 + 1 := by omega
    have X30 := X3.cell 0 _ rfl
    have X31 := X3.cell 1 _ rfl
    have X32 := X3.cell 2 _ rfl
    have X33 := X3.cell 3 _ rfl
    go_wp2_with fail
    (with_reducible refine (refLen_w (IsN.kept N4 (by repeat (first | with_reducible exact Kept.refl _ | with_reducible refine Kept.alloc ?_ _ | with_reducible refine Kept.drew ?_ | with_reducible refine Kept.setCell ?_ (by simp only [World.size_alloc, World.size_setCell, World.size_drew]; omega) _))) (by omega)).mono ?_)
    rintro e w3 ⟨rfl, hb⟩
    have X3' : Box w3 (w.heap.size + 1 + 1) #[.int .u64 0, .int .u64 0, .int .u64 0, .int .u64 0] := Box.call hb (by repeat (first | with_reducible assumption | with_reducible apply Box.set10 | with_reducible apply Box.set20 | with_reducible apply Box.set21 | with_reducible apply Box.set40 | with_reducible apply Box.set41 | with_reducible apply Box.set42 | with_reducible apply Box.set43 | with_reducible apply Box.set50 | with_reducible apply Box.set51 | with_reducible apply Box.set52 | with_reducible apply Box.set53 | with_reducible apply Box.set54 | with_reducible apply Box.drew | (with_reducible apply Box.newAt; (try simp only [World.size_alloc, World.size_setCell, World.size_drew]); done) | with_reducible apply Box.alloc | (with_reducible apply Box.other; case hne => ((try simp only [World.size_alloc, World.size_setCell, World.size_drew]); omega))))
    have N4' : IsN w3 u1_5 (A + B) := (IsN.kept N4 (by repeat (first | with_reducible exact Kept.refl _ | with_reducible refine Kept.alloc ?_ _ | with_reducible refine Kept.drew ?_ | with_reducible refine Kept.setCell ?_ (by simp only [World.size_alloc, World.size_setCell, World.size_drew]; omega) _))).call hb
    have hk' : Kept w.heap.size w w3 := Kept.step (by repeat (first | with_reducible exact hk | with_reducible exact Kept.refl _ | with_reducible refine Kept.alloc ?_ _ | with_reducible refine Kept.drew ?_ | with_reducible refine Kept.setCell ?_ (by simp only [World.size_alloc, World.size_setCell, World.size_drew]; omega) _)) hb
    clear hk hb
    clear X3 X3l1 X3l2 X3l3 X3f X30 X31 X32 X33
    have X3 := X3'
    clear X3'
    clear N4
    have N4 := N4'
    clear N4'
    have hk := hk'
    clear hk'
    have hz_w3 := hk.size
    have X3l := X3.lt
    have X3f := X3.free
    have X3l1 : w.heap.size + 1 + 1 < w3.heap.size + 1 := by omega
    have X3l2 : w.heap.size + 1 + 1 < w3.heap.size + 1 + 1 := by omega
    have X3l3 : w.heap.size + 1 + 1 < w3.heap.size + 1 + 1 + 1 := by omega
    have X30 := X3.cell 0 _ rfl
    have X31 := X3.cell 1 _ rfl
    have X32 := X3.cell 2 _ rfl
    have X33 := X3.cell 3 _ rfl
    go_wp2
    refine bodyPost_ret (v := .tuple #[wideV (add256 A B), .bool true]) (by simp [results, Try.results41, go_sem, X30, X31, X32, X33, g1]) rfl ⟨rfl, ?_⟩
    refine Kept.below ?_; repeat (first | with_reducible exact hk | with_reducible exact Kept.refl _ | with_reducible refine Kept.alloc ?_ _ | with_reducible refine Kept.drew ?_ | with_reducible refine Kept.setCell ?_ (by simp only [World.size_alloc, World.size_setCell, World.size_drew]; omega) _)

set_option maxRecDepth 100000 in
set_option maxHeartbeats 8000000 in
theorem ref02Add_false {A B : Nat} (hA : W256 A) (hB : W256 B) (h : carry256 A B = false) (w : World) :
    Calls Try.prog 41 #[wideV A, wideV B] w fun e w' => e = .returned (.tuple #[wideV (add256 A B), .bool false]) ∧ Below w.heap.size w w' := by
  have hk := Kept.refl w
  have HL := Lib.hid (show wideV (A + B) = wideV (add256 A B) from wide_mod (by unfold add256; omega))
  have g1 : ¬ (256 : Int) < ((lenB (A + B) : Nat) : Int) := by
    have := hA.lt; have := hB.lt
    have h1 := @lenB_gt (A + B) 256
    unfold carry256 at h
    have h2 := of_decide_eq_false h
    omega
  have lf0 := len256 (IsWide.of hA).w
  have lf1 := len256 (IsWide.of hB).w
  have lf2 := lenN_add A B
  go_enter Try.func41, Try.ntmps41
  go_wp2
  refine wp_region_g 6 (fun W' => Kept w.heap.size w W' ∧ w.heap.size + 1 + 1 + 1 ≤ W'.heap.size ∧ Box W' (w.heap.size) #[.int .u64 (limb 0 A), .int .u64 (limb 1 A), .int .u64 (limb 2 A), .int .u64 (limb 3 A)] ∧ Box W' (w.heap.size + 1) #[.int .u64 (limb 0 B), .int .u64 (limb 1 B), .int .u64 (limb 2 B), .int .u64 (limb 3 B)] ∧ Box W' (w.heap.size + 1 + 1) #[.int .u64 0, .int .u64 0, .int .u64 0, .int .u64 0]) (fun W' => Kept w.heap.size w W' ∧ w.heap.size + 1 + 1 + 1 ≤ W'.heap.size ∧ Box W' (w.heap.size) #[.int .u64 (limb 0 A), .int .u64 (limb 1 A), .int .u64 (limb 2 A), .int .u64 (limb 3 A)] ∧ Box W' (w.heap.size + 1) #[.int .u64 (limb 0 B), .int .u64 (limb 1 B), .int .u64 (limb 2 B), .int .u64 (limb 3 B)] ∧ Box W' (w.heap.size + 1 + 1) #[.int .u64 0, .int .u64 0, .int .u64 0, .int .u64 0]) 1000 (w.heap.size + 1 + 1 + 1) [.known (wideV A), .num (A), .known (wideV B), .num (B), .num (A + B), .num (A + B)] (by kernel_rfl) (by kernel_rfl) (fun W W' h hb => ⟨h.1.step hb, Nat.le_trans (h.2.1) hb.size, Box.call hb (h.2.2.1), Box.call hb (h.2.2.2.1), Box.call hb (h.2.2.2.2)⟩) (fun W W' h hb => ⟨h.1.step hb, Nat.le_trans (h.2.1) hb.size, Box.call hb (h.2.2.1), Box.call hb (h.2.2.2.1), Box.call hb (h.2.2.2.2)⟩) (no_out (of_decide_eq_true (by kernel_rfl))) (.inl (by kernel_rfl)) (.inl (by kernel_rfl)) (fun _ h => h.2.1) (fun _ h => h.2.1) (⟨(by repeat (first | with_reducible exact hk | with_reducible exact Kept.refl _ | with_reducible refine Kept.alloc ?_ _ | with_reducible refine Kept.drew ?_ | with_reducible refine Kept.setCell ?_ (by simp only [World.size_alloc, World.size_setCell, World.size_drew]; omega) _)), (by (try simp only [World.size_alloc, World.size_setCell, World.size_drew]); omega), (by repeat (first | with_reducible assumption | with_reducible apply Box.set10 | with_reducible apply Box.set20 | with_reducible apply Box.set21 | with_reducible apply Box.set40 | with_reducible apply Box.set41 | with_reducible apply Box.set42 | with_reducible apply Box.set43 | with_reducible apply Box.set50 | with_reducible apply Box.set51 | with_reducible apply Box.set52 | with_reducible apply Box.set53 | with_reducible apply Box.set54 | with_reducible apply Box.drew | (with_reducible apply Box.newAt; (try simp only [World.size_alloc, World.size_setCell, World.size_drew]); done) | with_reducible apply Box.alloc | (with_reducible apply Box.other; case hne => ((try simp only [World.size_alloc, World.size_setCell, World.size_drew]); omega)))), (by repeat (first | with_reducible assumption | with_reducible apply Box.set10 | with_reducible apply Box.set20 | with_reducible apply Box.set21 | with_reducible apply Box.set40 | with_reducible apply Box.set41 | with_reducible apply Box.set42 | with_reducible apply Box.set43 | with_reducible apply Box.set50 | with_reducible apply Box.set51 | with_reducible apply Box.set52 | with_reducible apply Box.set53 | with_reducible apply Box.set54 | with_reducible apply Box.drew | (with_reducible apply Box.newAt; (try simp only [World.size_alloc, World.size_setCell, World.size_drew]); done) | with_reducible apply Box.alloc | (with_reducible apply Box.other; case hne => ((try simp only [World.size_alloc, World.size_setCell, World.size_drew]); omega)))), (by repeat (first | with_reducible assumption | with_reducible apply Box.set10 | with_reducible apply Box.set20 | with_reducible apply Box.set21 | with_reducible apply Box.set40 | with_reducible apply Box.set41 | with_reducible apply Box.set42 | with_reducible apply Box.set43 | with_reducible apply Box.set50 | with_reducible apply Box.set51 | with_reducible apply Box.set52 | with_reducible apply Box.set53 | with_reducible apply Box.set54 | with_reducible apply Box.drew | (with_reducible apply Box.newAt; (try simp only [World.size_alloc, World.size_setCell, World.size_drew]); done) | with_reducible apply Box.alloc | (with_reducible apply Box.other; case hne => ((try simp only [World.size_alloc, World.size_setCell, World.size_drew]); omega))))⟩) ?_
  clear hk
  intro ρ
  simp only [List.take_succ_cons, List.take_zero, List.drop_succ_cons, List.drop_zero]
  refine ⟨?_, ?_⟩
  · as_aux_lemma =>
    intro y_ hS_ hO_ hD
    have Q := ((hS_ (by rfl)).2.2.1).cell
    have q0 := Q 0 _ rfl
    have q1 := Q 1 _ rfl
    have q2 := Q 2 _ rfl
    have q3 := Q 3 _ rfl
    clear Q hS_ hO_ hD
    refine s_gen (V := wideV A) [.pointer (some ⟨w.heap.size, 0, none⟩)] (by kernel_rfl) (by kernel_rfl) (by kernel_rfl) ?_
    intro r_ hr_
    have o0_ : r_ (.tmp 2) = .pointer (some ⟨w.heap.size, 0, none⟩) := op_at hr_ 0 (by kernel_rfl) (by kernel_rfl)
    clear hr_
    go_simp; first | done | with_reducible rfl
  simp only [Act.put, planVG, List.setIfInBounds_toArray, List.set_cons_zero, List.set_cons_succ, List.getElem?_cons_zero, List.getElem?_cons_succ]
  refine ⟨?_, ?_⟩
  · as_aux_lemma =>
    intro y_ hS_ hO_ hD
    try clear hS
    clear hS_ hO_ hD
    refine s_gcallN (A := A) [.func (.func 13) #[] #[], wideV A] ?_ ?_ (by kernel_rfl) (by kernel_rfl) (by kernel_rfl) ?_ ?_
    rotate_left 2
    · intro r_ hr_
      have o0_ : r_ (.func 13) = .func (.func 13) #[] #[] := op_at hr_ 0 (by kernel_rfl) (by kernel_rfl)
      have o1_ : r_ (.tmp 7) = wideV A := op_at hr_ 1 (by kernel_rfl) (by kernel_rfl)
      clear hr_
      go_simp; first | done | with_reducible rfl | (constructor <;> with_reducible rfl)
    · refine refWide_any (IsWide.of hA).w _
  simp only [Act.put, planVG, List.setIfInBounds_toArray, List.set_cons_zero, List.set_cons_succ, List.getElem?_cons_zero, List.getElem?_cons_succ]
  refine ⟨?_, ?_⟩
  · as_aux_lemma =>
    intro y_ hS_ hO_ hD
    have Q := ((hS_ (by rfl)).2.2.2.1).cell
    have q0 := Q 0 _ rfl
    have q1 := Q 1 _ rfl
    have q2 := Q 2 _ rfl
    have q3 := Q 3 _ rfl
    clear Q hS_ hO_ hD
    refine s_gen (V := wideV B) [.pointer (some ⟨w.heap.size + 1, 0, none⟩)] (by kernel_rfl) (by kernel_rfl) (by kernel_rfl) ?_
    intro r_ hr_
    have o0_ : r_ (.tmp 3) = .pointer (some ⟨w.heap.size + 1, 0, none⟩) := op_at hr_ 0 (by kernel_rfl) (by kernel_rfl)
    clear hr_
    go_simp; first | done | with_reducible rfl
  simp only [Act.put, planVG, List.setIfInBounds_toArray, List.set_cons_zero, List.set_cons_succ, List.getElem?_cons_zero, List.getElem?_cons_succ]
  refine ⟨?_, ?_⟩
  · as_aux_lemma =>
    intro y_ hS_ hO_ hD
    try clear hS
    clear hS_ hO_ hD
    refine s_gcallN (A := B) [.func (.func 13) #[] #[], wideV B] ?_ ?_ (by kernel_rfl) (by kernel_rfl) (by kernel_rfl) ?_ ?_
    rotate_left 2
    · intro r_ hr_
      have o0_ : r_ (.func 13) = .func (.func 13) #[] #[] := op_at hr_ 0 (by kernel_rfl) (by kernel_rfl)
      have o1_ : r_ (.tmp 9) = wideV B := op_at hr_ 1 (by kernel_rfl) (by kernel_rfl)
      clear hr_
      go_simp; first | done | with_reducible rfl | (constructor <;> with_reducible rfl)
    · refine refWide_any (IsWide.of hB).w _
  simp only [Act.put, planVG, List.setIfInBounds_toArray, List.set_cons_zero, List.set_cons_succ, List.getElem?_cons_zero, List.getElem?_cons_succ]
  refine ⟨?_, ?_⟩
  · as_aux_lemma =>
    intro y_ hS_ hO_ hD
    have n_1 : IsN y_ (ρ 1) (A) := hD 1 (by decide) (by rfl)
    have n_3 : IsN y_ (ρ 3) (B) := hD 3 (by decide) (by rfl)
    try clear hS
    clear hS_ hO_ hD
    refine s_gcallN (A := A + B) [.func (.func 14) #[] #[], ρ 1, ρ 3] ?_ ?_ (by kernel_rfl) (by kernel_rfl) (by kernel_rfl) ?_ ?_
    rotate_left 2
    · intro r_ hr_
      have o0_ : r_ (.func 14) = .func (.func 14) #[] #[] := op_at hr_ 0 (by kernel_rfl) (by kernel_rfl)
      have o1_ : r_ (.tmp 8) = ρ 1 := op_at hr_ 1 (by kernel_rfl) (by kernel_rfl)
      have o2_ : r_ (.tmp 10) = ρ 3 := op_at hr_ 2 (by kernel_rfl) (by kernel_rfl)
      clear hr_
      go_simp; first | done | with_reducible rfl | (constructor <;> with_reducible rfl)
    · refine refAdd_any _ n_1 n_3 (by omega) (by omega)
  simp only [Act.put, planVG, List.setIfInBounds_toArray, List.set_cons_zero, List.set_cons_succ, List.getElem?_cons_zero, List.getElem?_cons_succ]
  refine ⟨?_, ?_⟩
  · as_aux_lemma =>
    intro y_ hS_ hO_ hD
    have hS := hS_ (by rfl)
    have n_ : IsN y_ (ρ 4) (A + B) := hD 4 (by decide) (by rfl)
    clear hS hS_ hO_ hD
    exact s_num (by rfl) (by rfl) (by rfl) n_
  simp only [Act.put, planVG, List.setIfInBounds_toArray, List.set_cons_zero, List.set_cons_succ, List.getElem?_cons_zero, List.getElem?_cons_succ]
  as_aux_lemma =>
    intro w1 hS hF hD_
    change wpList _ _ _ _ _ _
    replace hS := sg_no (by decide) hS
    obtain ⟨hk, hZ1, X1, X2, X3⟩ := hS
    have M1 : IsN w1 (ρ 1) (A) := hF 1 (by decide)
    have M3 : IsN w1 (ρ 3) (B) := hF 3 (by decide)
    have M4 : IsN w1 (ρ 4) (A + B) := hF 4 (by decide)
    have M5 : IsN w1 (ρ 5) (A + B) := hF 5 (by decide)
    clear hF hD_
    generalize ρ 1 = u1_1 at *
    generalize ρ 3 = u1_3 at *
    generalize ρ 4 = u1_4 at *
    generalize ρ 5 = u1_5 at *
    clear ρ
    have hz_w1 := hk.size
    have X1l := X1.lt
    have X1f := X1.free
    have X1l1 : w.heap.size < w1.heap.size + 1 := by omega
    have X1l2 : w.heap.size < w1.heap.size + 1 + 1 := by omega
    have X1l3 : w.heap.size < w1.heap.size + 1 + 1 + 1 := by omega
    have X10 := X1.cell 0 _ rfl
    have X11 := X1.cell 1 _ rfl
    have X12 := X1.cell 2 _ rfl
    have X13 := X1.cell 3 _ rfl
    have X2l := X2.lt
    have X2f := X2.free
    have X2l1 : w.heap.size + 1 < w1.heap.size + 1 := by omega
    have X2l2 : w.heap.size + 1 < w1.heap.size + 1 + 1 := by omega
    have X2l3 : w.heap.size + 1 < w1.heap.size + 1 + 1 + 1 := by omega
    have X20 := X2.cell 0 _ rfl
    have X21 := X2.cell 1 _ rfl
    have X22 := X2.cell 2 _ rfl
    have X23 := X2.cell 3 _ rfl
    have X3l := X3.lt
    have X3f := X3.free
    have X3l1 : w.heap.size + 1 + 1 < w1.heap.size + 1 := by omega
    have X3l2 : w.heap.size + 1 + 1 < w1.heap.size + 1 + 1 := by omega
    have X3l3 : w.heap.size + 1 + 1 < w1.heap.size + 1 + 1 + 1 := by omega
    have X30 := X3.cell 0 _ rfl
    have X31 := X3.cell 1 _ rfl
    have X32 := X3.cell 2 _ rfl
    have X33 := X3.cell 3 _ rfl
    clear M1
    clear M3
    clear M4
    have N4 := M5
    clear M5
    go_wp2_with fail
    (with_reducible refine (Low_eq HL.out _ (IsN.kept N4 (by repeat (first | with_reducible exact Kept.refl _ | with_reducible refine Kept.alloc ?_ _ | with_reducible refine Kept.drew ?_ | with_reducible refine Kept.setCell ?_ (by simp only [World.size_alloc, World.size_setCell, World.size_drew]; omega) _))) (by omega)).mono ?_)
    rintro e w2 ⟨rfl, hb⟩
    have X3' : Box w2 (w.heap.size + 1 + 1) #[.int .u64 0, .int .u64 0, .int .u64 0, .int .u64 0] := Box.call hb (by repeat (first | with_reducible assumption | with_reducible apply Box.set10 | with_reducible apply Box.set20 | with_reducible apply Box.set21 | with_reducible apply Box.set40 | with_reducible apply Box.set41 | with_reducible apply Box.set42 | with_reducible apply Box.set43 | with_reducible apply Box.set50 | with_reducible apply Box.set51 | with_reducible apply Box.set52 | with_reducible apply Box.set53 | with_reducible apply Box.set54 | with_reducible apply Box.drew | (with_reducible apply Box.newAt; (try simp only [World.size_alloc, World.size_setCell, World.size_drew]); done) | with_reducible apply Box.alloc | (with_reducible apply Box.other; case hne => ((try simp only [World.size_alloc, World.size_setCell, World.size_drew]); omega))))
    have N4' : IsN w2 u1_5 (A + B) := (IsN.kept N4 (by repeat (first | with_reducible exact Kept.refl _ | with_reducible refine Kept.alloc ?_ _ | with_reducible refine Kept.drew ?_ | with_reducible refine Kept.setCell ?_ (by simp only [World.size_alloc, World.size_setCell, World.size_drew]; omega) _))).call hb
    have hk' : Kept w.heap.size w w2 := Kept.step (by repeat (first | with_reducible exact hk | with_reducible exact Kept.refl _ | with_reducible refine Kept.alloc ?_ _ | with_reducible refine Kept.drew ?_ | with_reducible refine Kept.setCell ?_ (by simp only [World.size_alloc, World.size_setCell, World.size_drew]; omega) _)) hb
    clear hk hb
    clear X1 X1l1 X1l2 X1l3 X1f X10 X11 X12 X13
    clear X2 X2l1 X2l2 X2l3 X2f X20 X21 X22 X23
    clear X3 X3l1 X3l2 X3l3 X3f X30 X31 X32 X33
    have X3 := X3'
    clear X3'
    clear N4
    have N4 := N4'
    clear N4'
    have hk := hk'
    clear hk'
    have hz_w2 := hk.size
    have X3l := X3.lt
    have X3f := X3.free
    have X3l1 : w.heap.size + 1 + 1 < w2.heap.size + 1 := by omega
    have X3l2 : w.heap.size + 1 + 1 < w2.heap.size + 1 + 1 := by omega
    have X3l3 : w.heap.size + 1 + 1 < w2.heap.size + 1 + 1 + 1 := by omega
    have X30 := X3.cell 0 _ rfl
    have X31 := X3.cell 1 _ rfl
    have X32 := X3.cell 2 _ rfl
    have X33 := X3.cell 3 _ rfl
    go_wp2_with fail
    (with_reducible refine (refLen_w (IsN.kept N4 (by repeat (first | with_reducible exact Kept.refl _ | with_reducible refine Kept.alloc ?_ _ | with_reducible refine Kept.drew ?_ | with_reducible refine Kept.setCell ?_ (by simp only [World.size_alloc, World.size_setCell, World.size_drew]; omega) _))) (by omega)).mono ?_)
    rintro e w3 ⟨rfl, hb⟩
    have X3' : Box w3 (w.heap.size + 1 + 1) #[.int .u64 0, .int .u64 0, .int .u64 0, .int .u64 0] := Box.call hb (by repeat (first | with_reducible assumption | with_reducible apply Box.set10 | with_reducible apply Box.set20 | with_reducible apply Box.set21 | with_reducible apply Box.set40 | with_reducible apply Box.set41 | with_reducible apply Box.set42 | with_reducible apply Box.set43 | with_reducible apply Box.set50 | with_reducible apply Box.set51 | with_reducible apply Box.set52 | with_reducible apply Box.set53 | with_reducible apply Box.set54 | with_reducible apply Box.drew | (with_reducible apply Box.newAt; (try simp only [World.size_alloc, World.size_setCell, World.size_drew]); done) | with_reducible apply Box.alloc | (with_reducible apply Box.other; case hne => ((try simp only [World.size_alloc, World.size_setCell, World.size_drew]); omega))))
    have N4' : IsN w3 u1_5 (A + B) := (IsN.kept N4 (by repeat (first | with_reducible exact Kept.refl _ | with_reducible refine Kept.alloc ?_ _ | with_reducible refine Kept.drew ?_ | with_reducible refine Kept.setCell ?_ (by simp only [World.size_alloc, World.size_setCell, World.size_drew]; omega) _))).call hb
    have hk' : Kept w.heap.size w w3 := Kept.step (by repeat (first | with_reducible exact hk | with_reducible exact Kept.refl _ | with_reducible refine Kept.alloc ?_ _ | with_reducible refine Kept.drew ?_ | with_reducible refine Kept.setCell ?_ (by simp only [World.size_alloc, World.size_setCell, World.size_drew]; omega) _)) hb
    clear hk hb
    clear X3 X3l1 X3l2 X3l3 X3f X30 X31 X32 X33
    have X3 := X3'
    clear X3'
    clear N4
    have N4 := N4'
    clear N4'
    have hk := hk'
    clear hk'
    have hz_w3 := hk.size
    have X3l := X3.lt
    have X3f := X3.free
    have X3l1 : w.heap.size + 1 + 1 < w3.heap.size + 1 := by omega
    have X3l2 : w.heap.size + 1 + 1 < w3.heap.size + 1 + 1 := by omega
    have X3l3 : w.heap.size + 1 + 1 < w3.heap.size + 1 + 1 + 1 := by omega
    have X30 := X3.cell 0 _ rfl
    have X31 := X3.cell 1 _ rfl
    have X32 := X3.cell 2 _ rfl
    have X33 := X3.cell 3 _ rfl
    go_wp2
    refine bodyPost_ret (v := .tuple #[wideV (add256 A B), .bool false]) (by simp [results, Try.results41, go_sem, X30, X31, X32, X33, g1]) rfl ⟨rfl, ?_⟩
    refine Kept.below ?_; repeat (first | with_reducible exact hk | with_reducible exact Kept.refl _ | with_reducible refine Kept.alloc ?_ _ | with_reducible refine Kept.drew ?_ | with_reducible refine Kept.setCell ?_ (by simp only [World.size_alloc, World.size_setCell, World.size_drew]; omega) _)

theorem ref02Add_any {A B : Nat} (hA : W256 A) (hB : W256 B) (w : World) :
    Calls Try.prog 41 #[wideV A, wideV B] w fun e w' => e = .returned (.tuple #[wideV (add256 A B), .bool (carry256 A B)]) ∧ Below w.heap.size w w' := by
  cases h : carry256 A B with
  | true => exact ref02Add_true hA hB h w
  | false => exact ref02Add_false hA hB h w

set_option maxRecDepth 100000 in
set_option maxHeartbeats 8000000 in
theorem ref02Sub_true {A B : Nat} (hA : W256 A) (hB : W256 B) (h : ltB A B = true) (w : World) :
    Calls Try.prog 43 #[wideV A, wideV B] w fun e w' => e = .returned (.tuple #[wideV (sub256 A B), .bool true]) ∧ Below w.heap.size w w' := by
  have hk := Kept.refl w
  obtain ⟨Z, hZ⟩ : ∃ Z : Nat, 2 ^ 256 = Z := ⟨_, rfl⟩
  have hA2 := hA.lt
  have hB2 := hB.lt
  have h2 := of_decide_eq_true h
  have HL := Lib.hid (show wideV ((A + Z) - B) = wideV (sub256 A B) from wide_mod (by unfold sub256; omega))
  have HLE := Lib.hid (show B ≤ (A + Z) by omega)
  have lenZ : lenN Z ≤ 9 := lenN_le 9 Z (by omega)
  have g1 : cmpN A B < 0 := by rw [cmp_neg]; omega
  have HF := Lib.hid hZ
  clear hZ hA2 hB2 h2
  have lf0 := len256 (IsWide.of hA).w
  have lf1 := len256 (IsWide.of hB).w
  have lf2 := lenN_add A Z
  have lf3 := lenN_sub (A + Z) B
  go_enter Try.func43, Try.ntmps43
  go_wp2
  refine wp_region_g 6 (fun W' => Kept w.heap.size w W' ∧ w.heap.size + 1 + 1 + 1 ≤ W'.heap.size ∧ Box W' (w.heap.size) #[.int .u64 (limb 0 A), .int .u64 (limb 1 A), .int .u64 (limb 2 A), .int .u64 (limb 3 A)] ∧ Box W' (w.heap.size + 1) #[.int .u64 (limb 0 B), .int .u64 (limb 1 B), .int .u64 (limb 2 B), .int .u64 (limb 3 B)] ∧ Box W' (w.heap.size + 1 + 1) #[.int .u64 0, .int .u64 0, .int .u64 0, .int .u64 0]) (fun W' => Kept w.heap.size w W' ∧ w.heap.size + 1 + 1 + 1 ≤ W'.heap.size ∧ Box W' (w.heap.size) #[.int .u64 (limb 0 A), .int .u64 (limb 1 A), .int .u64 (limb 2 A), .int .u64 (limb 3 A)] ∧ Box W' (w.heap.size + 1) #[.int .u64 (limb 0 B), .int .u64 (limb 1 B), .int .u64 (limb 2 B), .int .u64 (limb 3 B)] ∧ Box W' (w.heap.size + 1 + 1) #[.int .u64 0, .int .u64 0, .int .u64 0, .int .u64 0]) 1000 (w.heap.size + 1 + 1 + 1) [.known (wideV A), .num (A), .known (wideV B), .num (B), .num (A), .num (B)] (by kernel_rfl) (by kernel_rfl) (fun W W' h hb => ⟨h.1.step hb, Nat.le_trans (h.2.1) hb.size, Box.call hb (h.2.2.1), Box.call hb (h.2.2.2.1), Box.call hb (h.2.2.2.2)⟩) (fun W W' h hb => ⟨h.1.step hb, Nat.le_trans (h.2.1) hb.size, Box.call hb (h.2.2.1), Box.call hb (h.2.2.2.1), Box.call hb (h.2.2.2.2)⟩) (no_out (of_decide_eq_true (by kernel_rfl))) (.inl (by kernel_rfl)) (.inl (by kernel_rfl)) (fun _ h => h.2.1) (fun _ h => h.2.1) (⟨(by repeat (first | with_reducible exact hk | with_reducible exact Kept.refl _ | with_reducible refine Kept.alloc ?_ _ | with_reducible refine Kept.drew ?_ | with_reducible refine Kept.setCell ?_ (by simp only [World.size_alloc, World.size_setCell, World.size_drew]; omega) _)), (by (try simp only [World.size_alloc, World.size_setCell, World.size_drew]); omega), (by repeat (first | with_reducible assumption | with_reducible apply Box.set10 | with_reducible apply Box.set20 | with_reducible apply Box.set21 | with_reducible apply Box.set40 | with_reducible apply Box.set41 | with_reducible apply Box.set42 | with_reducible apply Box.set43 | with_reducible apply Box.set50 | with_reducible apply Box.set51 | with_reducible apply Box.set52 | with_reducible apply Box.set53 | with_reducible apply Box.set54 | with_reducible apply Box.drew | (with_reducible apply Box.newAt; (try simp only [World.size_alloc, World.size_setCell, World.size_drew]); done) | with_reducible apply Box.alloc | (with_reducible apply Box.other; case hne => ((try simp only [World.size_alloc, World.size_setCell, World.size_drew]); omega)))), (by repeat (first | with_reducible assumption | with_reducible apply Box.set10 | with_reducible apply Box.set20 | with_reducible apply Box.set21 | with_reducible apply Box.set40 | with_reducible apply Box.set41 | with_reducible apply Box.set42 | with_reducible apply Box.set43 | with_reducible apply Box.set50 | with_reducible apply Box.set51 | with_reducible apply Box.set52 | with_reducible apply Box.set53 | with_reducible apply Box.set54 | with_reducible apply Box.drew | (with_reducible apply Box.newAt; (try simp only [World.size_alloc, World.size_setCell, World.size_drew]); done) | with_reducible apply Box.alloc | (with_reducible apply Box.other; case hne => ((try simp only [World.size_alloc, World.size_setCell, World.size_drew]); omega)))), (by repeat (first | with_reducible assumption | with_reducible apply Box.set10 | with_reducible apply Box.set20 | with_reducible apply Box.set21 | with_reducible apply Box.set40 | with_reducible apply Box.set41 | with_reducible apply Box.set42 | with_reducible apply Box.set43 | with_reducible apply Box.set50 | with_reducible apply Box.set51 | with_reducible apply Box.set52 | with_reducible apply Box.set53 | with_reducible apply Box.set54 | with_reducible apply Box.drew | (with_reducible apply Box.newAt; (try simp only [World.size_alloc, World.size_setCell, World.size_drew]); done) | with_reducible apply Box.alloc | (with_reducible apply Box.other; case hne => ((try simp only [World.size_alloc, World.size_setCell, World.size_drew]); omega))))⟩) ?_
  clear hk
  intro ρ
  simp only [List.take_succ_cons, List.take_zero, List.drop_succ_cons, List.drop_zero]
  refine ⟨?_, ?_⟩
  · as_aux_lemma =>
    intro y_ hS_ hO_ hD
    have Q := ((hS_ (by rfl)).2.2.1).cell
    have q0 := Q 0 _ rfl
    have q1 := Q 1 _ rfl
    have q2 := Q 2 _ rfl
    have q3 := Q 3 _ rfl
    clear Q hS_ hO_ hD
    refine s_gen (V := wideV A) [.pointer (some ⟨w.heap.size, 0, none⟩)] (by kernel_rfl) (by kernel_rfl) (by kernel_rfl) ?_
    intro r_ hr_
    have o0_ : r_ (.tmp 2) = .pointer (some ⟨w.heap.size, 0, none⟩) := op_at hr_ 0 (by kernel_rfl) (by kernel_rfl)
    clear hr_
    go_simp; first | done | with_reducible rfl
  simp only [Act.put, planVG, List.setIfInBounds_toArray, List.set_cons_zero, List.set_cons_succ, List.getElem?_cons_zero, List.getElem?_cons_succ]
  refine ⟨?_, ?_⟩
  · as_aux_lemma =>
    intro y_ hS_ hO_ hD
    try clear hS
    clear hS_ hO_ hD
    refine s_gcallN (A := A) [.func (.func 13) #[] #[], wideV A] ?_ ?_ (by kernel_rfl) (by kernel_rfl) (by kernel_rfl) ?_ ?_
    rotate_left 2
    · intro r_ hr_
      have o0_ : r_ (.func 13) = .func (.func 13) #[] #[] := op_at hr_ 0 (by kernel_rfl) (by kernel_rfl)
      have o1_ : r_ (.tmp 9) = wideV A := op_at hr_ 1 (by kernel_rfl) (by kernel_rfl)
      clear hr_
      go_simp; first | done | with_reducible rfl | (constructor <;> with_reducible rfl)
    · refine refWide_any (IsWide.of hA).w _
  simp only [Act.put, planVG, List.setIfInBounds_toArray, List.set_cons_zero, List.set_cons_succ, List.getElem?_cons_zero, List.getElem?_cons_succ]
  refine ⟨?_, ?_⟩
  · as_aux_lemma =>
    intro y_ hS_ hO_ hD
    have Q := ((hS_ (by rfl)).2.2.2.1).cell
    have q0 := Q 0 _ rfl
    have q1 := Q 1 _ rfl
    have q2 := Q 2 _ rfl
    have q3 := Q 3 _ rfl
    clear Q hS_ hO_ hD
    refine s_gen (V := wideV B) [.pointer (some ⟨w.heap.size + 1, 0, none⟩)] (by kernel_rfl) (by kernel_rfl) (by kernel_rfl) ?_
    intro r_ hr_
    have o0_ : r_ (.tmp 3) = .pointer (some ⟨w.heap.size + 1, 0, none⟩) := op_at hr_ 0 (by kernel_rfl) (by kernel_rfl)
    clear hr_
    go_simp; first | done | with_reducible rfl
  simp only [Act.put, planVG, List.setIfInBounds_toArray, List.set_cons_zero, List.set_cons_succ, List.getElem?_cons_zero, List.getElem?_cons_succ]
  refine ⟨?_, ?_⟩
  · as_aux_lemma =>
    intro y_ hS_ hO_ hD
    try clear hS
    clear hS_ hO_ hD
    refine s_gcallN (A := B) [.func (.func 13) #[] #[], wideV B] ?_ ?_ (by kernel_rfl) (by kernel_rfl) (by kernel_rfl) ?_ ?_
    rotate_left 2
    · intro r_ hr_
      have o0_ : r_ (.func 13) = .func (.func 13) #[] #[] := op_at hr_ 0 (by kernel_rfl) (by kernel_rfl)
      have o1_ : r_ (.tmp 11) = wideV B := op_at hr_ 1 (by kernel_rfl) (by kernel_rfl)
      clear hr_
      go_simp; first | done | with_reducible rfl | (constructor <;> with_reducible rfl)
    · refine refWide_any (IsWide.of hB).w _
  simp only [Act.put, planVG, List.setIfInBounds_toArray, List.set_cons_zero, List.set_cons_succ, List.getElem?_cons_zero, List.getElem?_cons_succ]
  refine ⟨?_, ?_⟩
  · as_aux_lemma =>
    intro y_ hS_ hO_ hD
    have hS := hS_ (by rfl)
    have n_ : IsN y_ (ρ 1) (A) := hD 1 (by decide) (by rfl)
    clear hS hS_ hO_ hD
    exact s_num (by rfl) (by rfl) (by rfl) n_
  simp only [Act.put, planVG, List.setIfInBounds_toArray, List.set_cons_zero, List.set_cons_succ, List.getElem?_cons_zero, List.getElem?_cons_succ]
  refine ⟨?_, ?_⟩
  · as_aux_lemma =>
    intro y_ hS_ hO_ hD
    have hS := hS_ (by rfl)
    have n_ : IsN y_ (ρ 3) (B) := hD 3 (by decide) (by rfl)
    clear hS hS_ hO_ hD
    exact s_num (by rfl) (by rfl) (by rfl) n_
  simp only [Act.put, planVG, List.setIfInBounds_toArray, List.set_cons_zero, List.set_cons_succ, List.getElem?_cons_zero, List.getElem?_cons_succ]
  as_aux_lemma =>
    intro w1 hS hF hD_
    change wpList _ _ _ _ _ _
    replace hS := sg_no (by decide) hS
    obtain ⟨hk, hZ1, X1, X2, X3⟩ := hS
    have M1 : IsN w1 (ρ 1) (A) := hF 1 (by decide)
    have M3 : IsN w1 (ρ 3) (B) := hF 3 (by decide)
    have M4 : IsN w1 (ρ 4) (A) := hF 4 (by decide)
    have M5 : IsN w1 (ρ 5) (B) := hF 5 (by decide)
    clear hF hD_
    generalize ρ 1 = u1_1 at *
    generalize ρ 3 = u1_3 at *
    generalize ρ 4 = u1_4 at *
    generalize ρ 5 = u1_5 at *
    clear ρ
    have hz_w1 := hk.size
    have X1l := X1.lt
    have X1f := X1.free
    have X1l1 : w.heap.size < w1.heap.size + 1 := by omega
    have X1l2 : w.heap.size < w1.heap.size + 1 + 1 := by omega
    have X1l3 : w.heap.size < w1.heap.size + 1 + 1 + 1 := by omega
    have X10 := X1.cell 0 _ rfl
    have X11 := X1.cell 1 _ rfl
    have X12 := X1.cell 2 _ rfl
    have X13 := X1.cell 3 _ rfl
    have X2l := X2.lt
    have X2f := X2.free
    have X2l1 : w.heap.size + 1 < w1.heap.size + 1 := by omega
    have X2l2 : w.heap.size + 1 < w1.heap.size + 1 + 1 := by omega
    have X2l3 : w.heap.size + 1 < w1.heap.size + 1 + 1 + 1 := by omega
    have X20 := X2.cell 0 _ rfl
    have X21 := X2.cell 1 _ rfl
    have X22 := X2.cell 2 _ rfl
    have X23 := X2.cell 3 _ rfl
    have X3l := X3.lt
    have X3f := X3.free
    have X3l1 : w.heap.size + 1 + 1 < w1.heap.size + 1 := by omega
    have X3l2 : w.heap.size + 1 + 1 < w1.heap.size + 1 + 1 := by omega
    have X3l3 : w.heap.size + 1 + 1 < w1.heap.size + 1 + 1 + 1 := by omega
    have X30 := X3.cell 0 _ rfl
    have X31 := X3.cell 1 _ rfl
    have X32 := X3.cell 2 _ rfl
    have X33 := X3.cell 3 _ rfl
    clear M1
    clear M3
    have N3 := M4
    clear M4
    have N4 := M5
    clear M5
    go_wp2_with fail
    (with_reducible refine (refCmp_any _ (IsN.kept N3 (by repeat (first | with_reducible exact Kept.refl _ | with_reducible refine Kept.alloc ?_ _ | with_reducible refine Kept.drew ?_ | with_reducible refine Kept.setCell ?_ (by simp only [World.size_alloc, World.size_setCell, World.size_drew]; omega) _))) (IsN.kept N4 (by repeat (first | with_reducible exact Kept.refl _ | with_reducible refine Kept.alloc ?_ _ | with_reducible refine Kept.drew ?_ | with_reducible refine Kept.setCell ?_ (by simp only [World.size_alloc, World.size_setCell, World.size_drew]; omega) _))) (by omega) (by omega)).mono ?_)
    rintro e w2 ⟨rfl, hb⟩
    have X3' : Box w2 (w.heap.size + 1 + 1) #[.int .u64 0, .int .u64 0, .int .u64 0, .int .u64 0] := Box.call hb (by repeat (first | with_reducible assumption | with_reducible apply Box.set10 | with_reducible apply Box.set20 | with_reducible apply Box.set21 | with_reducible apply Box.set40 | with_reducible apply Box.set41 | with_reducible apply Box.set42 | with_reducible apply Box.set43 | with_reducible apply Box.set50 | with_reducible apply Box.set51 | with_reducible apply Box.set52 | with_reducible apply Box.set53 | with_reducible apply Box.set54 | with_reducible apply Box.drew | (with_reducible apply Box.newAt; (try simp only [World.size_alloc, World.size_setCell, World.size_drew]); done) | with_reducible apply Box.alloc | (with_reducible apply Box.other; case hne => ((try simp only [World.size_alloc, World.size_setCell, World.size_drew]); omega))))
    have N3' : IsN w2 u1_4 (A) := (IsN.kept N3 (by repeat (first | with_reducible exact Kept.refl _ | with_reducible refine Kept.alloc ?_ _ | with_reducible refine Kept.drew ?_ | with_reducible refine Kept.setCell ?_ (by simp only [World.size_alloc, World.size_setCell, World.size_drew]; omega) _))).call hb
    have N4' : IsN w2 u1_5 (B) := (IsN.kept N4 (by repeat (first | with_reducible exact Kept.refl _ | with_reducible refine Kept.alloc ?_ _ | with_reducible refine Kept.drew ?_ | with_reducible refine Kept.setCell ?_ (by simp only [World.size_alloc, World.size_setCell, World.size_drew]; omega) _))).call hb
    have hk' : Kept w.heap.size w w2 := Kept.step (by repeat (first | with_reducible exact hk | with_reducible exact Kept.refl _ | with_reducible refine Kept.alloc ?_ _ | with_reducible refine Kept.drew ?_ | with_reducible refine Kept.setCell ?_ (by simp only [World.size_alloc, World.size_setCell, World.size_drew]; omega) _)) hb
    clear hk hb
    clear X1 X1l1 X1l2 X1l3 X1f X10 X11 X12 X13
    clear X2 X2l1 X2l2 X2l3 X2f X20 X21 X22 X23
    clear X3 X3l1 X3l2 X3l3 X3f X30 X31 X32 X33
    have X3 := X3'
    clear X3'
    clear N3
    have N3 := N3'
    clear N3'
    clear N4
    have N4 := N4'
    clear N4'
    have hk := hk'
    clear hk'
    have hz_w2 := hk.size
    have X3l := X3.lt
    have X3f := X3.free
    have X3l1 : w.heap.size + 1 + 1 < w2.heap.size + 1 := by omega
    have X3l2 : w.heap.size + 1 + 1 < w2.heap.size + 1 + 1 := by omega
    have X3l3 : w.heap.size + 1 + 1 < w2.heap.size + 1 + 1 + 1 := by omega
    have X30 := X3.cell 0 _ rfl
    have X31 := X3.cell 1 _ rfl
    have X32 := X3.cell 2 _ rfl
    have X33 := X3.cell 3 _ rfl
    go_wp2_with fail
    (with_reducible refine (refFullF HF.out (by omega) (by omega) _).mono ?_)
    rintro e w3 ⟨vN5, rfl, N5_, hb⟩
    have X3' : Box w3 (w.heap.size + 1 + 1) #[.int .u64 0, .int .u64 0, .int .u64 0, .int .u64 0] := Box.call hb (by repeat (first | with_reducible assumption | with_reducible apply Box.set10 | with_reducible apply Box.set20 | with_reducible apply Box.set21 | with_reducible apply Box.set40 | with_reducible apply Box.set41 | with_reducible apply Box.set42 | with_reducible apply Box.set43 | with_reducible apply Box.set50 | with_reducible apply Box.set51 | with_reducible apply Box.set52 | with_reducible apply Box.set53 | with_reducible apply Box.set54 | with_reducible apply Box.drew | (with_reducible apply Box.newAt; (try simp only [World.size_alloc, World.size_setCell, World.size_drew]); done) | with_reducible apply Box.alloc | (with_reducible apply Box.other; case hne => ((try simp only [World.size_alloc, World.size_setCell, World.size_drew]); omega))))
    have N3' : IsN w3 u1_4 (A) := (IsN.kept N3 (by repeat (first | with_reducible exact Kept.refl _ | with_reducible refine Kept.alloc ?_ _ | with_reducible refine Kept.drew ?_ | with_reducible refine Kept.setCell ?_ (by simp only [World.size_alloc, World.size_setCell, World.size_drew]; omega) _))).call hb
    have N4' : IsN w3 u1_5 (B) := (IsN.kept N4 (by repeat (first | with_reducible exact Kept.refl _ | with_reducible refine Kept.alloc ?_ _ | with_reducible refine Kept.drew ?_ | with_reducible refine Kept.setCell ?_ (by simp only [World.size_alloc, World.size_setCell, World.size_drew]; omega) _))).call hb
    have hk' : Kept w.heap.size w w3 := Kept.step (by repeat (first | with_reducible exact hk | with_reducible exact Kept.refl _ | with_reducible refine Kept.alloc ?_ _ | with_reducible refine Kept.drew ?_ | with_reducible refine Kept.setCell ?_ (by simp only [World.size_alloc, World.size_setCell, World.size_drew]; omega) _)) hb
    clear hk hb
    clear X3 X3l1 X3l2 X3l3 X3f X30 X31 X32 X33
    have X3 := X3'
    clear X3'
    clear N3
    have N3 := N3'
    clear N3'
    clear N4
    have N4 := N4'
    clear N4'
    have hk := hk'
    clear hk'
    have hz_w3 := hk.size
    have X3l := X3.lt
    have X3f := X3.free
    have X3l1 : w.heap.size + 1 + 1 < w3.heap.size + 1 := by omega
    have X3l2 : w.heap.size + 1 + 1 < w3.heap.size + 1 + 1 := by omega
    have X3l3 : w.heap.size + 1 + 1 < w3.heap.size + 1 + 1 + 1 := by omega
    have X30 := X3.cell 0 _ rfl
    have X31 := X3.cell 1 _ rfl
    have X32 := X3.cell 2 _ rfl
    have X33 := X3.cell 3 _ rfl
    have N5 : IsN w3 vN5 (Z) := N5_
    clear N5_
    go_wp2_with fail
    (with_reducible refine (refAdd_any _ (IsN.kept N3 (by repeat (first | with_reducible exact Kept.refl _ | with_reducible refine Kept.alloc ?_ _ | with_reducible refine Kept.drew ?_ | with_reducible refine Kept.setCell ?_ (by simp only [World.size_alloc, World.size_setCell, World.size_drew]; omega) _))) (IsN.kept N5 (by repeat (first | with_reducible exact Kept.refl _ | with_reducible refine Kept.alloc ?_ _ | with_reducible refine Kept.drew ?_ | with_reducible refine Kept.setCell ?_ (by simp only [World.size_alloc, World.size_setCell, World.size_drew]; omega) _))) (by omega) (by omega)).mono ?_)
    rintro e w4 ⟨vN6, rfl, N6_, hb⟩
    have X3' : Box w4 (w.heap.size + 1 + 1) #[.int .u64 0, .int .u64 0, .int .u64 0, .int .u64 0] := Box.call hb (by repeat (first | with_reducible assumption | with_reducible apply Box.set10 | with_reducible apply Box.set20 | with_reducible apply Box.set21 | with_reducible apply Box.set40 | with_reducible apply Box.set41 | with_reducible apply Box.set42 | with_reducible apply Box.set43 | with_reducible apply Box.set50 | with_reducible apply Box.set51 | with_reducible apply Box.set52 | with_reducible apply Box.set53 | with_reducible apply Box.set54 | with_reducible apply Box.drew | (with_reducible apply Box.newAt; (try simp only [World.size_alloc, World.size_setCell, World.size_drew]); done) | with_reducible apply Box.alloc | (with_reducible apply Box.other; case hne => ((try simp only [World.size_alloc, World.size_setCell, World.size_drew]); omega))))
    have N3' : IsN w4 u1_4 (A) := (IsN.kept N3 (by repeat (first | with_reducible exact Kept.refl _ | with_reducible refine Kept.alloc ?_ _ | with_reducible refine Kept.drew ?_ | with_reducible refine Kept.setCell ?_ (by simp only [World.size_alloc, World.size_setCell, World.size_drew]; omega) _))).call hb
    have N4' : IsN w4 u1_5 (B) := (IsN.kept N4 (by repeat (first | with_reducible exact Kept.refl _ | with_reducible refine Kept.alloc ?_ _ | with_reducible refine Kept.drew ?_ | with_reducible refine Kept.setCell ?_ (by simp only [World.size_alloc, World.size_setCell, World.size_drew]; omega) _))).call hb
    have N5' : IsN w4 vN5 (Z) := (IsN.kept N5 (by repeat (first | with_reducible exact Kept.refl _ | with_reducible refine Kept.alloc ?_ _ | with_reducible refine Kept.drew ?_ | with_reducible refine Kept.setCell ?_ (by simp only [World.size_alloc, World.size_setCell, World.size_drew]; omega) _))).call hb
    have hk' : Kept w.heap.size w w4 := Kept.step (by repeat (first | with_reducible exact hk | with_reducible exact Kept.refl _ | with_reducible refine Kept.alloc ?_ _ | with_reducible refine Kept.drew ?_ | with_reducible refine Kept.setCell ?_ (by simp only [World.size_alloc, World.size_setCell, World.size_drew]; omega) _)) hb
    clear hk hb
    clear X3 X3l1 X3l2 X3l3 X3f X30 X31 X32 X33
    have X3 := X3'
    clear X3'
    clear N3
    have N3 := N3'
    clear N3'
    clear N4
    have N4 := N4'
    clear N4'
    clear N5
    have N5 := N5'
    clear N5'
    have hk := hk'
    clear hk'
    have hz_w4 := hk.size
    have X3l := X3.lt
    have X3f := X3.free
    have X3l1 : w.heap.size + 1 + 1 < w4.heap.size + 1 := by omega
    have X3l2 : w.heap.size + 1 + 1 < w4.heap.size + 1 + 1 := by omega
    have X3l3 : w.heap.size + 1 + 1 < w4.heap.size + 1 + 1 + 1 := by omega
    have X30 := X3.cell 0 _ rfl
    have X31 := X3.cell 1 _ rfl
    have X32 := X3.cell 2 _ rfl
    have X33 := X3.cell 3 _ rfl
    have N6 : IsN w4 vN6 (A + Z) := N6_
    clear N6_
    clear N3
    clear N5
    go_wp2_with fail
    (with_reducible refine (refSub_any _ (IsN.kept N6 (by repeat (first | with_reducible exact Kept.refl _ | with_reducible refine Kept.alloc ?_ _ | with_reducible refine Kept.drew ?_ | with_reducible refine Kept.setCell ?_ (by simp only [World.size_alloc, World.size_setCell, World.size_drew]; omega) _))) (IsN.kept N4 (by repeat (first | with_reducible exact Kept.refl _ | with_reducible refine Kept.alloc ?_ _ | with_reducible refine Kept.drew ?_ | with_reducible refine Kept.setCell ?_ (by simp only [World.size_alloc, World.size_setCell, World.size_drew]; omega) _))) (by omega) (by omega) HLE.out).mono ?_)
    rintro e w5 ⟨vN7, rfl, N7_, hb⟩
    have X3' : Box w5 (w.heap.size + 1 + 1) #[.int .u64 0, .int .u64 0, .int .u64 0, .int .u64 0] := Box.call hb (by repeat (first | with_reducible assumption | with_reducible apply Box.set10 | with_reducible apply Box.set20 | with_reducible apply Box.set21 | with_reducible apply Box.set40 | with_reducible apply Box.set41 | with_reducible apply Box.set42 | with_reducible apply Box.set43 | with_reducible apply Box.set50 | with_reducible apply Box.set51 | with_reducible apply Box.set52 | with_reducible apply Box.set53 | with_reducible apply Box.set54 | with_reducible apply Box.drew | (with_reducible apply Box.newAt; (try simp only [World.size_alloc, World.size_setCell, World.size_drew]); done) | with_reducible apply Box.alloc | (with_reducible apply Box.other; case hne => ((try simp only [World.size_alloc, World.size_setCell, World.size_drew]); omega))))
    have N4' : IsN w5 u1_5 (B) := (IsN.kept N4 (by repeat (first | with_reducible exact Kept.refl _ | with_reducible refine Kept.alloc ?_ _ | with_reducible refine Kept.drew ?_ | with_reducible refine Kept.setCell ?_ (by simp only [World.size_alloc, World.size_setCell, World.size_drew]; omega) _))).call hb
    have N6' : IsN w5 vN6 (A + Z) := (IsN.kept N6 (by repeat (first | with_reducible exact Kept.refl _ | with_reducible refine Kept.alloc ?_ _ | with_reducible refine Kept.drew ?_ | with_reducible refine Kept.setCell ?_ (by simp only [World.size_alloc, World.size_setCell, World.size_drew]; omega) _))).call hb
    have hk' : Kept w.heap.size w w5 := Kept.step (by repeat (first | with_reducible exact hk | with_reducible exact Kept.refl _ | with_reducible refine Kept.alloc ?_ _ | with_reducible refine Kept.drew ?_ | with_reducible refine Kept.setCell ?_ (by simp only [World.size_alloc, World.size_setCell, World.size_drew]; omega) _)) hb
    clear hk hb
    clear X3 X3l1 X3l2 X3l3 X3f X30 X31 X32 X33
    have X3 := X3'
    clear X3'
    clear N4
    have N4 := N4'
    clear N4'
    clear N6
    have N6 := N6'
    clear N6'
    have hk := hk'
    clear hk'
    have hz_w5 := hk.size
    have X3l := X3.lt
    have X3f := X3.free
    have X3l1 : w.heap.size + 1 + 1 < w5.heap.size + 1 := by omega
    have X3l2 : w.heap.size + 1 + 1 < w5.heap.size + 1 + 1 := by omega
    have X3l3 : w.heap.size + 1 + 1 < w5.heap.size + 1 + 1 + 1 := by omega
    have X30 := X3.cell 0 _ rfl
    have X31 := X3.cell 1 _ rfl
    have X32 := X3.cell 2 _ rfl
    have X33 := X3.cell 3 _ rfl
    have N7 : IsN w5 vN7 ((A + Z) - B) := N7_
    clear N7_
    clear N4
    clear N6
    go_wp2_with fail
    (with_reducible refine (Low_eq HL.out _ (IsN.kept N7 (by repeat (first | with_reducible exact Kept.refl _ | with_reducible refine Kept.alloc ?_ _ | with_reducible refine Kept.drew ?_ | with_reducible refine Kept.setCell ?_ (by simp only [World.size_alloc, World.size_setCell, World.size_drew]; omega) _))) (by omega)).mono ?_)
    rintro e w6 ⟨rfl, hb⟩
    have X3' : Box w6 (w.heap.size + 1 + 1) #[.int .u64 0, .int .u64 0, .int .u64 0, .int .u64 0] := Box.call hb (by repeat (first | with_reducible assumption | with_reducible apply Box.set10 | with_reducible apply Box.set20 | with_reducible apply Box.set21 | with_reducible apply Box.set40 | with_reducible apply Box.set41 | with_reducible apply Box.set42 | with_reducible apply Box.set43 | with_reducible apply Box.set50 | with_reducible apply Box.set51 | with_reducible apply Box.set52 | with_reducible apply Box.set53 | with_reducible apply Box.set54 | with_reducible apply Box.drew | (with_reducible apply Box.newAt; (try simp only [World.size_alloc, World.size_setCell, World.size_drew]); done) | with_reducible apply Box.alloc | (with_reducible apply Box.other; case hne => ((try simp only [World.size_alloc, World.size_setCell, World.size_drew]); omega))))
    have N7' : IsN w6 vN7 ((A + Z) - B) := (IsN.kept N7 (by repeat (first | with_reducible exact Kept.refl _ | with_reducible refine Kept.alloc ?_ _ | with_reducible refine Kept.drew ?_ | with_reducible refine Kept.setCell ?_ (by simp only [World.size_alloc, World.size_setCell, World.size_drew]; omega) _))).call hb
    have hk' : Kept w.heap.size w w6 := Kept.step (by repeat (first | with_reducible exact hk | with_reducible exact Kept.refl _ | with_reducible refine Kept.alloc ?_ _ | with_reducible refine Kept.drew ?_ | with_reducible refine Kept.setCell ?_ (by simp only [World.size_alloc, World.size_setCell, World.size_drew]; omega) _)) hb
    clear hk hb
    clear X3 X3l1 X3l2 X3l3 X3f X30 X31 X32 X33
    have X3 := X3'
    clear X3'
    clear N7
    have N7 := N7'
    clear N7'
    have hk := hk'
    clear hk'
    have hz_w6 := hk.size
    have X3l := X3.lt
    have X3f := X3.free
    have X3l1 : w.heap.size + 1 + 1 < w6.heap.size + 1 := by omega
    have X3l2 : w.heap.size + 1 + 1 < w6.heap.size + 1 + 1 := by omega
    have X3l3 : w.heap.size + 1 + 1 < w6.heap.size + 1 + 1 + 1 := by omega
    have X30 := X3.cell 0 _ rfl
    have X31 := X3.cell 1 _ rfl
    have X32 := X3.cell 2 _ rfl
    have X33 := X3.cell 3 _ rfl
    go_wp2
    refine bodyPost_ret (v := .tuple #[wideV (sub256 A B), .bool true]) (by simp [results, Try.results43, go_sem, X30, X31, X32, X33, g1]) rfl ⟨rfl, ?_⟩
    refine Kept.below ?_; repeat (first | with_reducible exact hk | with_reducible exact Kept.refl _ | with_reducible refine Kept.alloc ?_ _ | with_reducible refine Kept.drew ?_ | with_reducible refine Kept.setCell ?_ (by simp only [World.size_alloc, World.size_setCell, World.size_drew]; omega) _)

set_option maxRecDepth 100000 in
set_option maxHeartbeats 8000000 in
theorem ref02Sub_false {A B : Nat} (hA : W256 A) (hB : W256 B) (h : ltB A B = false) (w : World) :
    Calls Try.prog 43 #[wideV A, wideV B] w fun e w' => e = .returned (.tuple #[wideV (sub256 A B), .bool false]) ∧ Below w.heap.size w w' := by
  have hk := Kept.refl w
  obtain ⟨Z, hZ⟩ : ∃ Z : Nat, 2 ^ 256 = Z := ⟨_, rfl⟩
  have hA2 := hA.lt
  have hB2 := hB.lt
  have h2 := of_decide_eq_false h
  have HL := Lib.hid (show wideV (A - B) = wideV (sub256 A B) from wide_mod (by unfold sub256; omega))
  have HLE := Lib.hid (show B ≤ A by omega)
  have lenZ : lenN Z ≤ 9 := lenN_le 9 Z (by omega)
  have g1 : ¬ cmpN A B < 0 := by rw [cmp_neg]; omega
  have HF := Lib.hid hZ
  clear hZ hA2 hB2 h2
  have lf0 := len256 (IsWide.of hA).w
  have lf1 := len256 (IsWide.of hB).w
  have lf2 := lenN_sub A B
  go_enter Try.func43, Try.ntmps43
  go_wp2
  refine wp_region_g 6 (fun W' => Kept w.heap.size w W' ∧ w.heap.size + 1 + 1 + 1 ≤ W'.heap.size ∧ Box W' (w.heap.size) #[.int .u64 (limb 0 A), .int .u64 (limb 1 A), .int .u64 (limb 2 A), .int .u64 (limb 3 A)] ∧ Box W' (w.heap.size + 1) #[.int .u64 (limb 0 B), .int .u64 (limb 1 B), .int .u64 (limb 2 B), .int .u64 (limb 3 B)] ∧ Box W' (w.heap.size + 1 + 1) #[.int .u64 0, .int .u64 0, .int .u64 0, .int .u64 0]) (fun W' => Kept w.heap.size w W' ∧ w.heap.size + 1 + 1 + 1 ≤ W'.heap.size ∧ Box W' (w.heap.size) #[.int .u64 (limb 0 A), .int .u64 (limb 1 A), .int .u64 (limb 2 A), .int .u64 (limb 3 A)] ∧ Box W' (w.heap.size + 1) #[.int .u64 (limb 0 B), .int .u64 (limb 1 B), .int .u64 (limb 2 B), .int .u64 (limb 3 B)] ∧ Box W' (w.heap.size + 1 + 1) #[.int .u64 0, .int .u64 0, .int .u64 0, .int .u64 0]) 1000 (w.heap.size + 1 + 1 + 1) [.known (wideV A), .num (A), .known (wideV B), .num (B), .num (A), .num (B)] (by kernel_rfl) (by kernel_rfl) (fun W W' h hb => ⟨h.1.step hb, Nat.le_trans (h.2.1) hb.size, Box.call hb (h.2.2.1), Box.call hb (h.2.2.2.1), Box.call hb (h.2.2.2.2)⟩) (fun W W' h hb => ⟨h.1.step hb, Nat.le_trans (h.2.1) hb.size, Box.call hb (h.2.2.1), Box.call hb (h.2.2.2.1), Box.call hb (h.2.2.2.2)⟩) (no_out (of_decide_eq_true (by kernel_rfl))) (.inl (by kernel_rfl)) (.inl (by kernel_rfl)) (fun _ h => h.2.1) (fun _ h => h.2.1) (⟨(by repeat (first | with_reducible exact hk | with_reducible exact Kept.refl _ | with_reducible refine Kept.alloc ?_ _ | with_reducible refine Kept.drew ?_ | with_reducible refine Kept.setCell ?_ (by simp only [World.size_alloc, World.size_setCell, World.size_drew]; omega) _)), (by (try simp only [World.size_alloc, World.size_setCell, World.size_drew]); omega), (by repeat (first | with_reducible assumption | with_reducible apply Box.set10 | with_reducible apply Box.set20 | with_reducible apply Box.set21 | with_reducible apply Box.set40 | with_reducible apply Box.set41 | with_reducible apply Box.set42 | with_reducible apply Box.set43 | with_reducible apply Box.set50 | with_reducible apply Box.set51 | with_reducible apply Box.set52 | with_reducible apply Box.set53 | with_reducible apply Box.set54 | with_reducible apply Box.drew | (with_reducible apply Box.newAt; (try simp only [World.size_alloc, World.size_setCell, World.size_drew]); done) | with_reducible apply Box.alloc | (with_reducible apply Box.other; case hne => ((try simp only [World.size_alloc, World.size_setCell, World.size_drew]); omega)))), (by repeat (first | with_reducible assumption | with_reducible apply Box.set10 | with_reducible apply Box.set20 | with_reducible apply Box.set21 | with_reducible apply Box.set40 | with_reducible apply Box.set41 | with_reducible apply Box.set42 | with_reducible apply Box.set43 | with_reducible apply Box.set50 | with_reducible apply Box.set51 | with_reducible apply Box.set52 | with_reducible apply Box.set53 | with_reducible apply Box.set54 | with_reducible apply Box.drew | (with_reducible apply Box.newAt; (try simp only [World.size_alloc, World.size_setCell, World.size_drew]); done) | with_reducible apply Box.alloc | (with_reducible apply Box.other; case hne => ((try simp only [World.size_alloc, World.size_setCell, World.size_drew]); omega)))), (by repeat (first | with_reducible assumption | with_reducible apply Box.set10 | with_reducible apply Box.set20 | with_reducible apply Box.set21 | with_reducible apply Box.set40 | with_reducible apply Box.set41 | with_reducible apply Box.set42 | with_reducible apply Box.set43 | with_reducible apply Box.set50 | with_reducible apply Box.set51 | with_reducible apply Box.set52 | with_reducible apply Box.set53 | with_reducible apply Box.set54 | with_reducible apply Box.drew | (with_reducible apply Box.newAt; (try simp only [World.size_alloc, World.size_setCell, World.size_drew]); done) | with_reducible apply Box.alloc | (with_reducible apply Box.other; case hne => ((try simp only [World.size_alloc, World.size_setCell, World.size_drew]); omega))))⟩) ?_
  clear hk
  intro ρ
  simp only [List.take_succ_cons, List.take_zero, List.drop_succ_cons, List.drop_zero]
  refine ⟨?_, ?_⟩
  · as_aux_lemma =>
    intro y_ hS_ hO_ hD
    have Q := ((hS_ (by rfl)).2.2.1).cell
    have q0 := Q 0 _ rfl
    have q1 := Q 1 _ rfl
    have q2 := Q 2 _ rfl
    have q3 := Q 3 _ rfl
    clear Q hS_ hO_ hD
    refine s_gen (V := wideV A) [.pointer (some ⟨w.heap.size, 0, none⟩)] (by kernel_rfl) (by kernel_rfl) (by kernel_rfl) ?_
    intro r_ hr_
    have o0_ : r_ (.tmp 2) = .pointer (some ⟨w.heap.size, 0, none⟩) := op_at hr_ 0 (by kernel_rfl) (by kernel_rfl)
    clear hr_
    go_simp; first | done | with_reducible rfl
  simp only [Act.put, planVG, List.setIfInBounds_toArray, List.set_cons_zero, List.set_cons_succ, List.getElem?_cons_zero, List.getElem?_cons_succ]
  refine ⟨?_, ?_⟩
  · as_aux_lemma =>
    intro y_ hS_ hO_ hD
    try clear hS
    clear hS_ hO_ hD
    refine s_gcallN (A := A) [.func (.func 13) #[] #[], wideV A] ?_ ?_ (by kernel_rfl) (by kernel_rfl) (by kernel_rfl) ?_ ?_
    rotate_left 2
    · intro r_ hr_
      have o0_ : r_ (.func 13) = .func (.func 13) #[] #[] := op_at hr_ 0 (by kernel_rfl) (by kernel_rfl)
      have o1_ : r_ (.tmp 9) = wideV A := op_at hr_ 1 (by kernel_rfl) (by kernel_rfl)
      clear hr_
      go_simp; first | done | with_reducible rfl | (constructor <;> with_reducible rfl)
    · refine refWide_any (IsWide.of hA).w _
  simp only [Act.put, planVG, List.setIfInBounds_toArray, List.set_cons_zero, List.set_cons_succ, List.getElem?_cons_zero, List.getElem?_cons_succ]
  refine ⟨?_, ?_⟩
  · as_aux_lemma =>
    intro y_ hS_ hO_ hD
    have Q := ((hS_ (by rfl)).2.2.2.1).cell
    have q0 := Q 0 _ rfl
    have q1 := Q 1 _ rfl
    have q2 := Q 2 _ rfl
    have q3 := Q 3 _ rfl
    clear Q hS_ hO_ hD
    refine s_gen (V := wideV B) [.pointer (some ⟨w.heap.size + 1, 0, none⟩)] (by kernel_rfl) (by kernel_rfl) (by kernel_rfl) ?_
    intro r_ hr_
    have o0_ : r_ (.tmp 3) = .pointer (some ⟨w.heap.size + 1, 0, none⟩) := op_at hr_ 0 (by kernel_rfl) (by kernel_rfl)
    clear hr_
    go_simp; first | done | with_reducible rfl
  simp only [Act.put, planVG, List.setIfInBounds_toArray, List.set_cons_zero, List.set_cons_succ, List.getElem?_cons_zero, List.getElem?_cons_succ]
  refine ⟨?_, ?_⟩
  · as_aux_lemma =>
    intro y_ hS_ hO_ hD
    try clear hS
    clear hS_ hO_ hD
    refine s_gcallN (A := B) [.func (.func 13) #[] #[], wideV B] ?_ ?_ (by kernel_rfl) (by kernel_rfl) (by kernel_rfl) ?_ ?_
    rotate_left 2
    · intro r_ hr_
      have o0_ : r_ (.func 13) = .func (.func 13) #[] #[] := op_at hr_ 0 (by kernel_rfl) (by kernel_rfl)
      have o1_ : r_ (.tmp 11) = wideV B := op_at hr_ 1 (by kernel_rfl) (by kernel_rfl)
      clear hr_
      go_simp; first | done | with_reducible rfl | (constructor <;> with_reducible rfl)
    · refine refWide_any (IsWide.of hB).w _
  simp only [Act.put, planVG, List.setIfInBounds_toArray, List.set_cons_zero, List.set_cons_succ, List.getElem?_cons_zero, List.getElem?_cons_succ]
  refine ⟨?_, ?_⟩
  · as_aux_lemma =>
    intro y_ hS_ hO_ hD
    have hS := hS_ (by rfl)
    have n_ : IsN y_ (ρ 1) (A) := hD 1 (by decide) (by rfl)
    clear hS hS_ hO_ hD
    exact s_num (by rfl) (by rfl) (by rfl) n_
  simp only [Act.put, planVG, List.setIfInBounds_toArray, List.set_cons_zero, List.set_cons_succ, List.getElem?_cons_zero, List.getElem?_cons_succ]
  refine ⟨?_, ?_⟩
  · as_aux_lemma =>
    intro y_ hS_ hO_ hD
    have hS := hS_ (by rfl)
    have n_ : IsN y_ (ρ 3) (B) := hD 3 (by decide) (by rfl)
    clear hS hS_ hO_ hD
    exact s_num (by rfl) (by rfl) (by rfl) n_
  simp only [Act.put, planVG, List.setIfInBounds_toArray, List.set_cons_zero, List.set_cons_succ, List.getElem?_cons_zero, List.getElem?_cons_succ]
  as_aux_lemma =>
    intro w1 hS hF hD_
    change wpList _ _ _ _ _ _
    replace hS := sg_no (by decide) hS
    obtain ⟨hk, hZ1, X1, X2, X3⟩ := hS
    have M1 : IsN w1 (ρ 1) (A) := hF 1 (by decide)
    have M3 : IsN w1 (ρ 3) (B) := hF 3 (by decide)
    have M4 : IsN w1 (ρ 4) (A) := hF 4 (by decide)
    have M5 : IsN w1 (ρ 5) (B) := hF 5 (by decide)
    clear hF hD_
    generalize ρ 1 = u1_1 at *
    generalize ρ 3 = u1_3 at *
    generalize ρ 4 = u1_4 at *
    generalize ρ 5 = u1_5 at *
    clear ρ
    have hz_w1 := hk.size
    have X1l := X1.lt
    have X1f := X1.free
    have X1l1 : w.heap.size < w1.heap.size + 1 := by omega
    have X1l2 : w.heap.size < w1.heap.size + 1 + 1 := by omega
    have X1l3 : w.heap.size < w1.heap.size + 1 + 1 + 1 := by omega
    have X10 := X1.cell 0 _ rfl
    have X11 := X1.cell 1 _ rfl
    have X12 := X1.cell 2 _ rfl
    have X13 := X1.cell 3 _ rfl
    have X2l := X2.lt
    have X2f := X2.free
    have X2l1 : w.heap.size + 1 < w1.heap.size + 1 := by omega
    have X2l2 : w.heap.size + 1 < w1.heap.size + 1 + 1 := by omega
    have X2l3 : w.heap.size + 1 < w1.heap.size + 1 + 1 + 1 := by omega
    have X20 := X2.cell 0 _ rfl
    have X21 := X2.cell 1 _ rfl
    have X22 := X2.cell 2 _ rfl
    have X23 := X2.cell 3 _ rfl
    have X3l := X3.lt
    have X3f := X3.free
    have X3l1 : w.heap.size + 1 + 1 < w1.heap.size + 1 := by omega
    have X3l2 : w.heap.size + 1 + 1 < w1.heap.size + 1 + 1 := by omega
    have X3l3 : w.heap.size + 1 + 1 < w1.heap.size + 1 + 1 + 1 := by omega
    have X30 := X3.cell 0 _ rfl
    have X31 := X3.cell 1 _ rfl
    have X32 := X3.cell 2 _ rfl
    have X33 := X3.cell 3 _ rfl
    clear M1
    clear M3
    have N3 := M4
    clear M4
    have N4 := M5
    clear M5
    go_wp2_with fail
    (with_reducible refine (refCmp_any _ (IsN.kept N3 (by repeat (first | with_reducible exact Kept.refl _ | with_reducible refine Kept.alloc ?_ _ | with_reducible refine Kept.drew ?_ | with_reducible refine Kept.setCell ?_ (by simp only [World.size_alloc, World.size_setCell, World.size_drew]; omega) _))) (IsN.kept N4 (by repeat (first | with_reducible exact Kept.refl _ | with_reducible refine Kept.alloc ?_ _ | with_reducible refine Kept.drew ?_ | with_reducible refine Kept.setCell ?_ (by simp only [World.size_alloc, World.size_setCell, World.size_drew]; omega) _))) (by omega) (by omega)).mono ?_)
    rintro e w2 ⟨rfl, hb⟩
    have X3' : Box w2 (w.heap.size + 1 + 1) #[.int .u64 0, .int .u64 0, .int .u64 0, .int .u64 0] := Box.call hb (by repeat (first | with_reducible assumption | with_reducible apply Box.set10 | with_reducible apply Box.set20 | with_reducible apply Box.set21 | with_reducible apply Box.set40 | with_reducible apply Box.set41 | with_reducible apply Box.set42 | with_reducible apply Box.set43 | with_reducible apply Box.set50 | with_reducible apply Box.set51 | with_reducible apply Box.set52 | with_reducible apply Box.set53 | with_reducible apply Box.set54 | with_reducible apply Box.drew | (with_reducible apply Box.newAt; (try simp only [World.size_alloc, World.size_setCell, World.size_drew]); done) | with_reducible apply Box.alloc | (with_reducible apply Box.other; case hne => ((try simp only [World.size_alloc, World.size_setCell, World.size_drew]); omega))))
    have N3' : IsN w2 u1_4 (A) := (IsN.kept N3 (by repeat (first | with_reducible exact Kept.refl _ | with_reducible refine Kept.alloc ?_ _ | with_reducible refine Kept.drew ?_ | with_reducible refine Kept.setCell ?_ (by simp only [World.size_alloc, World.size_setCell, World.size_drew]; omega) _))).call hb
    have N4' : IsN w2 u1_5 (B) := (IsN.kept N4 (by repeat (first | with_reducible exact Kept.refl _ | with_reducible refine Kept.alloc ?_ _ | with_reducible refine Kept.drew ?_ | with_reducible refine Kept.setCell ?_ (by simp only [World.size_alloc, World.size_setCell, World.size_drew]; omega) _))).call hb
    have hk' : Kept w.heap.size w w2 := Kept.step (by repeat (first | with_reducible exact hk | with_reducible exact Kept.refl _ | with_reducible refine Kept.alloc ?_ _ | with_reducible refine Kept.drew ?_ | with_reducible refine Kept.setCell ?_ (by simp only [World.size_alloc, World.size_setCell, World.size_drew]; omega) _)) hb
    clear hk hb
    clear X1 X1l1 X1l2 X1l3 X1f X10 X11 X12 X13
    clear X2 X2l1 X2l2 X2l3 X2f X20 X21 X22 X23
    clear X3 X3l1 X3l2 X3l3 X3f X30 X31 X32 X33
    have X3 := X3'
    clear X3'
    clear N3
    have N3 := N3'
    clear N3'
    clear N4
    have N4 := N4'
    clear N4'
    have hk := hk'
    clear hk'
    have hz_w2 := hk.size
    have X3l := X3.lt
    have X3f := X3.free
    have X3l1 : w.heap.size + 1 + 1 < w2.heap.size + 1 := by omega
    have X3l2 : w.heap.size + 1 + 1 < w2.heap.size + 1 + 1 := by omega
    have X3l3 : w.heap.size + 1 + 1 < w2.heap.size + 1 + 1 + 1 := by omega
    have X30 := X3.cell 0 _ rfl
    have X31 := X3.cell 1 _ rfl
    have X32 := X3.cell 2 _ rfl
    have X33 := X3.cell 3 _ rfl
    go_wp2_with fail
    (with_reducible refine (refSub_any _ (IsN.kept N3 (by repeat (first | with_reducible exact Kept.refl _ | with_reducible refine Kept.alloc ?_ _ | with_reducible refine Kept.drew ?_ | with_reducible refine Kept.setCell ?_ (by simp only [World.size_alloc, World.size_setCell, World.size_drew]; omega) _))) (IsN.kept N4 (by repeat (first | with_reducible exact Kept.refl _ | with_reducible refine Kept.alloc ?_ _ | with_reducible refine Kept.drew ?_ | with_reducible refine Kept.setCell ?_ (by simp only [World.size_alloc, World.size_setCell, World.size_drew]; omega) _))) (by omega) (by omega) HLE.out).mono ?_)
    rintro e w3 ⟨vN5, rfl, N5_, hb⟩
    have X3' : Box w3 (w.heap.size + 1 + 1) #[.int .u64 0, .int .u64 0, .int .u64 0, .int .u64 0] := Box.call hb (by repeat (first | with_reducible assumption | with_reducible apply Box.set10 | with_reducible apply Box.set20 | with_reducible apply Box.set21 | with_reducible apply Box.set40 | with_reducible apply Box.set41 | with_reducible apply Box.set42 | with_reducible apply Box.set43 | with_reducible apply Box.set50 | with_reducible apply Box.set51 | with_reducible apply Box.set52 | with_reducible apply Box.set53 | with_reducible apply Box.set54 | with_reducible apply Box.drew | (with_reducible apply Box.newAt; (try simp only [World.size_alloc, World.size_setCell, World.size_drew]); done) | with_reducible apply Box.alloc | (with_reducible apply Box.other; case hne => ((try simp only [World.size_alloc, World.size_setCell, World.size_drew]); omega))))
    have N3' : IsN w3 u1_4 (A) := (IsN.kept N3 (by repeat (first | with_reducible exact Kept.refl _ | with_reducible refine Kept.alloc ?_ _ | with_reducible refine Kept.drew ?_ | with_reducible refine Kept.setCell ?_ (by simp only [World.size_alloc, World.size_setCell, World.size_drew]; omega) _))).call hb
    have N4' : IsN w3 u1_5 (B) := (IsN.kept N4 (by repeat (first | with_reducible exact Kept.refl _ | with_reducible refine Kept.alloc ?_ _ | with_reducible refine Kept.drew ?_ | with_reducible refine Kept.setCell ?_ (by simp only [World.size_alloc, World.size_setCell, World.size_drew]; omega) _))).call hb
    have hk' : Kept w.heap.size w w3 := Kept.step (by repeat (first | with_reducible exact hk | with_reducible exact Kept.refl _ | with_reducible refine Kept.alloc ?_ _ | with_reducible refine Kept.drew ?_ | with_reducible refine Kept.setCell ?_ (by simp only [World.size_alloc, World.size_setCell, World.size_drew]; omega) _)) hb
    clear hk hb
    clear X3 X3l1 X3l2 X3l3 X3f X30 X31 X32 X33
    have X3 := X3'
    clear X3'
    clear N3
    have N3 := N3'
    clear N3'
    clear N4
    have N4 := N4'
    clear N4'
    have hk := hk'
    clear hk'
    have hz_w3 := hk.size
    have X3l := X3.lt
    have X3f := X3.free
    have X3l1 : w.heap.size + 1 + 1 < w3.heap.size + 1 := by omega
    have X3l2 : w.heap.size + 1 + 1 < w3.heap.size + 1 + 1 := by omega
    have X3l3 : w.heap.size + 1 + 1 < w3.heap.size + 1 + 1 + 1 := by omega
    have X30 := X3.cell 0 _ rfl
    have X31 := X3.cell 1 _ rfl
    have X32 := X3.cell 2 _ rfl
    have X33 := X3.cell 3 _ rfl
    have N5 : IsN w3 vN5 (A - B) := N5_
    clear N5_
    clear N3
    clear N4
    go_wp2_with fail
    (with_reducible refine (Low_eq HL.out _ (IsN.kept N5 (by repeat (first | with_reducible exact Kept.refl _ | with_reducible refine Kept.alloc ?_ _ | with_reducible refine Kept.drew ?_ | with_reducible refine Kept.setCell ?_ (by simp only [World.size_alloc, World.size_setCell, World.size_drew]; omega) _))) (by omega)).mono ?_)
    rintro e w4 ⟨rfl, hb⟩
    have X3' : Box w4 (w.heap.size + 1 + 1) #[.int .u64 0, .int .u64 0, .int .u64 0, .int .u64 0] := Box.call hb (by repeat (first | with_reducible assumption | with_reducible apply Box.set10 | with_reducible apply Box.set20 | with_reducible apply Box.set21 | with_reducible apply Box.set40 | with_reducible apply Box.set41 | with_reducible apply Box.set42 | with_reducible apply Box.set43 | with_reducible apply Box.set50 | with_reducible apply Box.set51 | with_reducible apply Box.set52 | with_reducible apply Box.set53 | with_reducible apply Box.set54 | with_reducible apply Box.drew | (with_reducible apply Box.newAt; (try simp only [World.size_alloc, World.size_setCell, World.size_drew]); done) | with_reducible apply Box.alloc | (with_reducible apply Box.other; case hne => ((try simp only [World.size_alloc, World.size_setCell, World.size_drew]); omega))))
    have N5' : IsN w4 vN5 (A - B) := (IsN.kept N5 (by repeat (first | with_reducible exact Kept.refl _ | with_reducible refine Kept.alloc ?_ _ | with_reducible refine Kept.drew ?_ | with_reducible refine Kept.setCell ?_ (by simp only [World.size_alloc, World.size_setCell, World.size_drew]; omega) _))).call hb
    have hk' : Kept w.heap.size w w4 := Kept.step (by repeat (first | with_reducible exact hk | with_reducible exact Kept.refl _ | with_reducible refine Kept.alloc ?_ _ | with_reducible refine Kept.drew ?_ | with_reducible refine Kept.setCell ?_ (by simp only [World.size_alloc, World.size_setCell, World.size_drew]; omega) _)) hb
    clear hk hb
    clear X3 X3l1 X3l2 X3l3 X3f X30 X31 X32 X33
    have X3 := X3'
    clear X3'
    clear N5
    have N5 := N5'
    clear N5'
    have hk := hk'
    clear hk'
    have hz_w4 := hk.size
    have X3l := X3.lt
    have X3f := X3.free
    have X3l1 : w.heap.size + 1 + 1 < w4.heap.size + 1 := by omega
    have X3l2 : w.heap.size + 1 + 1 < w4.heap.size + 1 + 1 := by omega
    have X3l3 : w.heap.size + 1 + 1 < w4.heap.size + 1 + 1 + 1 := by omega
    have X30 := X3.cell 0 _ rfl
    have X31 := X3.cell 1 _ rfl
    have X32 := X3.cell 2 _ rfl
    have X33 := X3.cell 3 _ rfl
    go_wp2
    refine bodyPost_ret (v := .tuple #[wideV (sub256 A B), .bool false]) (by simp [results, Try.results43, go_sem, X30, X31, X32, X33, g1]) rfl ⟨rfl, ?_⟩
    refine Kept.below ?_; repeat (first | with_reducible exact hk | with_reducible exact Kept.refl _ | with_reducible refine Kept.alloc ?_ _ | with_reducible refine Kept.drew ?_ | with_reducible refine Kept.setCell ?_ (by simp only [World.size_alloc, World.size_setCell, World.size_drew]; omega) _)

theorem ref02Sub_any {A B : Nat} (hA : W256 A) (hB : W256 B) (w : World) :
    Calls Try.prog 43 #[wideV A, wideV B] w fun e w' => e = .returned (.tuple #[wideV (sub256 A B), .bool (ltB A B)]) ∧ Below w.heap.size w w' := by
  cases h : ltB A B with
  | true => exact ref02Sub_true hA hB h w
  | false => exact ref02Sub_false hA hB h w

set_option maxRecDepth 100000 in
set_option maxHeartbeats 8000000 in
theorem ref02Mul_any {A B : Nat} (hA : W128 A) (hB : W128 B) (w : World) :
    Calls Try.prog 18 #[bitsV A, bitsV B] w fun e w' => e = .returned (wideV (mulN A B)) ∧ Below w.heap.size w w' := by
  have hk := Kept.refl w
  have HL := Lib.hid (show wideV (A * B) = wideV (mulN A B) by rw [mulN_def])
  have lf0 := len128 (IsBits.of hA).w
  have lf1 := len128 (IsBits.of hB).w
  have lf2 := lenN_mul A B
  go_enter Try.func18, Try.ntmps18
  go_wp2
  refine wp_region_g 6 (fun W' => Kept w.heap.size w W' ∧ w.heap.size + 1 + 1 + 1 ≤ W'.heap.size ∧ Box W' (w.heap.size) #[.int .u64 (limb 1 A), .int .u64 (limb 0 A)] ∧ Box W' (w.heap.size + 1) #[.int .u64 (limb 1 B), .int .u64 (limb 0 B)] ∧ Box W' (w.heap.size + 1 + 1) #[.int .u64 0, .int .u64 0, .int .u64 0, .int .u64 0]) (fun W' => Kept w.heap.size w W' ∧ w.heap.size + 1 + 1 + 1 ≤ W'.heap.size ∧ Box W' (w.heap.size) #[.int .u64 (limb 1 A), .int .u64 (limb 0 A)] ∧ Box W' (w.heap.size + 1) #[.int .u64 (limb 1 B), .int .u64 (limb 0 B)] ∧ Box W' (w.heap.size + 1 + 1) #[.int .u64 0, .int .u64 0, .int .u64 0, .int .u64 0]) 1000 (w.heap.size + 1 + 1 + 1) [.known (bitsV A), .num (A), .known (bitsV B), .num (B), .num (A * B), .known (wideV (mulN A B))] (by kernel_rfl) (by kernel_rfl) (fun W W' h hb => ⟨h.1.step hb, Nat.le_trans (h.2.1) hb.size, Box.call hb (h.2.2.1), Box.call hb (h.2.2.2.1), Box.call hb (h.2.2.2.2)⟩) (fun W W' h hb => ⟨h.1.step hb, Nat.le_trans (h.2.1) hb.size, Box.call hb (h.2.2.1), Box.call hb (h.2.2.2.1), Box.call hb (h.2.2.2.2)⟩) (no_out (of_decide_eq_true (by kernel_rfl))) (.inl (by kernel_rfl)) (.inl (by kernel_rfl)) (fun _ h => h.2.1) (fun _ h => h.2.1) (⟨(by repeat (first | with_reducible exact hk | with_reducible exact Kept.refl _ | with_reducible refine Kept.alloc ?_ _ | with_reducible refine Kept.drew ?_ | with_reducible refine Kept.setCell ?_ (by simp only [World.size_alloc, World.size_setCell, World.size_drew]; omega) _)), (by (try simp only [World.size_alloc, World.size_setCell, World.size_drew]); omega), (by repeat (first | with_reducible assumption | with_reducible apply Box.set10 | with_reducible apply Box.set20 | with_reducible apply Box.set21 | with_reducible apply Box.set40 | with_reducible apply Box.set41 | with_reducible apply Box.set42 | with_reducible apply Box.set43 | with_reducible apply Box.set50 | with_reducible apply Box.set51 | with_reducible apply Box.set52 | with_reducible apply Box.set53 | with_reducible apply Box.set54 | with_reducible apply Box.drew | (with_reducible apply Box.newAt; (try simp only [World.size_alloc, World.size_setCell, World.size_drew]); done) | with_reducible apply Box.alloc | (with_reducible apply Box.other; case hne => ((try simp only [World.size_alloc, World.size_setCell, World.size_drew]); omega)))), (by repeat (first | with_reducible assumption | with_reducible apply Box.set10 | with_reducible apply Box.set20 | with_reducible apply Box.set21 | with_reducible apply Box.set40 | with_reducible apply Box.set41 | with_reducible apply Box.set42 | with_reducible apply Box.set43 | with_reducible apply Box.set50 | with_reducible apply Box.set51 | with_reducible apply Box.set52 | with_reducible apply Box.set53 | with_reducible apply Box.set54 | with_reducible apply Box.drew | (with_reducible apply Box.newAt; (try simp only [World.size_alloc, World.size_setCell, World.size_drew]); done) | with_reducible apply Box.alloc | (with_reducible apply Box.other; case hne => ((try simp only [World.size_alloc, World.size_setCell, World.size_drew]); omega)))), (by repeat (first | with_reducible assumption | with_reducible apply Box.set10 | with_reducible apply Box.set20 | with_reducible apply Box.set21 | with_reducible apply Box.set40 | with_reducible apply Box.set41 | with_reducible apply Box.set42 | with_reducible apply Box.set43 | with_reducible apply Box.set50 | with_reducible apply Box.set51 | with_reducible apply Box.set52 | with_reducible apply Box.set53 | with_reducible apply Box.set54 | with_reducible apply Box.drew | (with_reducible apply Box.newAt; (try simp only [World.size_alloc, World.size_setCell, World.size_drew]); done) | with_reducible apply Box.alloc | (with_reducible apply Box.other; case hne => ((try simp only [World.size_alloc, World.size_setCell, World.size_drew]); omega))))⟩) ?_
  clear hk
  intro ρ
  simp only [List.take_succ_cons, List.take_zero, List.drop_succ_cons, List.drop_zero]
  refine ⟨?_, ?_⟩
  · as_aux_lemma =>
    intro y_ hS_ hO_ hD
    have Q := ((hS_ (by rfl)).2.2.1).cell
    have q0 := Q 0 _ rfl
    have q1 := Q 1 _ rfl
    clear Q hS_ hO_ hD
    refine s_gen (V := bitsV A) [.pointer (some ⟨w.heap.size, 0, none⟩)] (by kernel_rfl) (by kernel_rfl) (by kernel_rfl) ?_
    intro r_ hr_
    have o0_ : r_ (.tmp 2) = .pointer (some ⟨w.heap.size, 0, none⟩) := op_at hr_ 0 (by kernel_rfl) (by kernel_rfl)
    clear hr_
    go_simp; first | done | with_reducible rfl
  simp only [Act.put, planVG, List.setIfInBounds_toArray, List.set_cons_zero, List.set_cons_succ, List.getElem?_cons_zero, List.getElem?_cons_succ]
  refine ⟨?_, ?_⟩
  · as_aux_lemma =>
    intro y_ hS_ hO_ hD
    try clear hS
    clear hS_ hO_ hD
    refine s_gcallN (A := A) [.func (.func 16) #[] #[], bitsV A] ?_ ?_ (by kernel_rfl) (by kernel_rfl) (by kernel_rfl) ?_ ?_
    rotate_left 2
    · intro r_ hr_
      have o0_ : r_ (.func 16) = .func (.func 16) #[] #[] := op_at hr_ 0 (by kernel_rfl) (by kernel_rfl)
      have o1_ : r_ (.tmp 5) = bitsV A := op_at hr_ 1 (by kernel_rfl) (by kernel_rfl)
      clear hr_
      go_simp; first | done | with_reducible rfl | (constructor <;> with_reducible rfl)
    · refine Big_any (IsBits.of hA).w _
  simp only [Act.put, planVG, List.setIfInBounds_toArray, List.set_cons_zero, List.set_cons_succ, List.getElem?_cons_zero, List.getElem?_cons_succ]
  refine ⟨?_, ?_⟩
  · as_aux_lemma =>
    intro y_ hS_ hO_ hD
    have Q := ((hS_ (by rfl)).2.2.2.1).cell
    have q0 := Q 0 _ rfl
    have q1 := Q 1 _ rfl
    clear Q hS_ hO_ hD
    refine s_gen (V := bitsV B) [.pointer (some ⟨w.heap.size + 1, 0, none⟩)] (by kernel_rfl) (by kernel_rfl) (by kernel_rfl) ?_
    intro r_ hr_
    have o0_ : r_ (.tmp 3) = .pointer (some ⟨w.heap.size + 1, 0, none⟩) := op_at hr_ 0 (by kernel_rfl) (by kernel_rfl)
    clear hr_
    go_simp; first | done | with_reducible rfl
  simp only [Act.put, planVG, List.setIfInBounds_toArray, List.set_cons_zero, List.set_cons_succ, List.getElem?_cons_zero, List.getElem?_cons_succ]
  refine ⟨?_, ?_⟩
  · as_aux_lemma =>
    intro y_ hS_ hO_ hD
    try clear hS
    clear hS_ hO_ hD
    refine s_gcallN (A := B) [.func (.func 16) #[] #[], bitsV B] ?_ ?_ (by kernel_rfl) (by kernel_rfl) (by kernel_rfl) ?_ ?_
    rotate_left 2
    · intro r_ hr_
      have o0_ : r_ (.func 16) = .func (.func 16) #[] #[] := op_at hr_ 0 (by kernel_rfl) (by kernel_rfl)
      have o1_ : r_ (.tmp 7) = bitsV B := op_at hr_ 1 (by kernel_rfl) (by kernel_rfl)
      clear hr_
      go_simp; first | done | with_reducible rfl | (constructor <;> with_reducible rfl)
    · refine Big_any (IsBits.of hB).w _
  simp only [Act.put, planVG, List.setIfInBounds_toArray, List.set_cons_zero, List.set_cons_succ, List.getElem?_cons_zero, List.getElem?_cons_succ]
  refine ⟨?_, ?_⟩
  · as_aux_lemma =>
    intro y_ hS_ hO_ hD
    have n_1 : IsN y_ (ρ 1) (A) := hD 1 (by decide) (by rfl)
    have n_3 : IsN y_ (ρ 3) (B) := hD 3 (by decide) (by rfl)
    try clear hS
    clear hS_ hO_ hD
    refine s_gcallN (A := A * B) [.func (.func 34) #[] #[], ρ 1, ρ 3] ?_ ?_ (by kernel_rfl) (by kernel_rfl) (by kernel_rfl) ?_ ?_
    rotate_left 2
    · intro r_ hr_
      have o0_ : r_ (.func 34) = .func (.func 34) #[] #[] := op_at hr_ 0 (by kernel_rfl) (by kernel_rfl)
      have o1_ : r_ (.tmp 6) = ρ 1 := op_at hr_ 1 (by kernel_rfl) (by kernel_rfl)
      have o2_ : r_ (.tmp 8) = ρ 3 := op_at hr_ 2 (by kernel_rfl) (by kernel_rfl)
      clear hr_
      go_simp; first | done | with_reducible rfl | (constructor <;> with_reducible rfl)
    · refine refMul_any _ n_1 n_3 (by omega) (by omega)
  simp only [Act.put, planVG, List.setIfInBounds_toArray, List.set_cons_zero, List.set_cons_succ, List.getElem?_cons_zero, List.getElem?_cons_succ]
  refine ⟨?_, ?_⟩
  · as_aux_lemma =>
    intro y_ hS_ hO_ hD
    have n_4 : IsN y_ (ρ 4) (A * B) := hD 4 (by decide) (by rfl)
    try clear hS
    clear hS_ hO_ hD
    refine s_gcall (V := wideV (mulN A B)) [.func (.func 20) #[] #[], ρ 4] ?_ ?_ (by kernel_rfl) (by kernel_rfl) (by kernel_rfl) ?_ ?_
    rotate_left 2
    · intro r_ hr_
      have o0_ : r_ (.func 20) = .func (.func 20) #[] #[] := op_at hr_ 0 (by kernel_rfl) (by kernel_rfl)
      have o1_ : r_ (.tmp 9) = ρ 4 := op_at hr_ 1 (by kernel_rfl) (by kernel_rfl)
      clear hr_
      go_simp; first | done | with_reducible rfl | (constructor <;> with_reducible rfl)
    · refine Low_eq HL.out _ n_4 (by omega)
  simp only [Act.put, planVG, List.setIfInBounds_toArray, List.set_cons_zero, List.set_cons_succ, List.getElem?_cons_zero, List.getElem?_cons_succ]
  as_aux_lemma =>
    intro w1 hS hF hD_
    change wpList _ _ _ _ _ _
    replace hS := sg_no (by decide) hS
    obtain ⟨hk, hZ1, X1, X2, X3⟩ := hS
    have M1 : IsN w1 (ρ 1) (A) := hF 1 (by decide)
    have M3 : IsN w1 (ρ 3) (B) := hF 3 (by decide)
    have M4 : IsN w1 (ρ 4) (A * B) := hF 4 (by decide)
    clear hF hD_
    generalize ρ 1 = u1_1 at *
    generalize ρ 3 = u1_3 at *
    generalize ρ 4 = u1_4 at *
    clear ρ
    have hz_w1 := hk.size
    have X1l := X1.lt
    have X1f := X1.free
    have X1l1 : w.heap.size < w1.heap.size + 1 := by omega
    have X1l2 : w.heap.size < w1.heap.size + 1 + 1 := by omega
    have X1l3 : w.heap.size < w1.heap.size + 1 + 1 + 1 := by omega
    have X10 := X1.cell 0 _ rfl
    have X11 := X1.cell 1 _ rfl
    have X2l := X2.lt
    have X2f := X2.free
    have X2l1 : w.heap.size + 1 < w1.heap.size + 1 := by omega
    have X2l2 : w.heap.size + 1 < w1.heap.size + 1 + 1 := by omega
    have X2l3 : w.heap.size + 1 < w1.heap.size + 1 + 1 + 1 := by omega
    have X20 := X2.cell 0 _ rfl
    have X21 := X2.cell 1 _ rfl
    have X3l := X3.lt
    have X3f := X3.free
    have X3l1 : w.heap.size + 1 + 1 < w1.heap.size + 1 := by omega
    have X3l2 : w.heap.size + 1 + 1 < w1.heap.size + 1 + 1 := by omega
    have X3l3 : w.heap.size + 1 + 1 < w1.heap.size + 1 + 1 + 1 := by omega
    have X30 := X3.cell 0 _ rfl
    have X31 := X3.cell 1 _ rfl
    have X32 := X3.cell 2 _ rfl
    have X33 := X3.cell 3 _ rfl
    clear M1
    clear M3
    clear M4
    go_wp2
    refine bodyPost_ret (v := wideV (mulN A B)) (by simp [results, Try.results18, go_sem, X30, X31, X32, X33]) rfl ⟨rfl, ?_⟩
    refine Kept.below ?_; repeat (first | with_reducible exact hk | with_reducible exact Kept.refl _ | with_reducible refine Kept.alloc ?_ _ | with_reducible refine Kept.drew ?_ | with_reducible refine Kept.setCell ?_ (by simp only [World.size_alloc, World.size_setCell, World.size_drew]; omega) _)

end Go.Proofs.Ythpmbfdbknikcaa
