/- The walk of WordSums. -/
import Derived.Test.YthpmbfdbknikcaaLaw01
import Derived.Test.YthpmbfdbknikcaaRefAll
import Derived.Test.YthpmbfdbknikcaaRegionG
set_option linter.unusedVariables false
set_option linter.unusedSimpArgs false
namespace Go.Proofs.Ythpmbfdbknikcaa
open Go.RowKit

set_option maxRecDepth 100000 in
set_option maxHeartbeats 8000000 in
theorem WordSums_00 {A B S D : Nat} (hA : W128 A) (hB : W128 B) (hS : W128 S) (hD : W128 D) (eS : add128 A B = S) (eD : sub128 A B = D) (h : B ≤ A) (hc : carry128 A B = false) (w : World) :
    Calls Try.prog 4 #[bitsV A, bitsV B] w fun e w' => e = .returned (.bool true) ∧ Below w.heap.size w w' := by
  have hk := Kept.refl w
  obtain ⟨Z, hZ⟩ : ∃ Z : Nat, 2 ^ 128 = Z := ⟨_, rfl⟩
  have hA2 := hA.lt
  have hB2 := hB.lt
  have HE1 := Lib.hid (show bitsV (A + B) = bitsV S by rw [← eS]; exact bits_mod (by unfold add128; omega))
  have HE2 := Lib.hid (show bitsV (A - B) = bitsV D by rw [← eD]; exact bits_mod (by unfold sub128; omega))
  have HLE := Lib.hid (show B ≤ A by omega)
  have c1 : ¬ cmpN A B < 0 := by rw [cmp_neg]; omega
  have c0 : decide (cmpN A B < 0) = false := decide_eq_false c1
  have c2 : cmpN (A + B) Z < 0 := by
    rw [cmp_neg]
    have := of_decide_eq_false hc
    omega
  have HC := Lib.hid hc
  have HB := Lib.hid (show ltB A B = false from decide_eq_false (by omega))
  have lenZ : lenN Z ≤ 5 := lenN_le 5 Z (by omega)
  have la := len128 hA
  have lb := len128 hB
  have ls : lenN (A + B) ≤ 5 := lenN_le 5 _ (by omega)
  have ln : lenN A ≤ 5 := lenN_le 5 _ (by omega)
  have lm : lenN (A - B) ≤ 5 := lenN_le 5 _ (by omega)
  have HF := Lib.hid hZ
  have HS := Lib.hid eS; have HD := Lib.hid eD
  clear hZ hA2 hB2 eS eD
  clear h hc
  go_enter Try.func4, Try.ntmps4
  go_wp2_with fail
  (with_reducible refine (calls_to (V := .tuple #[bitsV S, .bool false]) (Add_at (IsBits.of hA) (IsBits.of hB) _) (by rw [HS.out, HC.out])).mono ?_)
  rintro e w1 ⟨rfl, hb⟩
  have X1' : Box w1 (w.heap.size) #[.int .u64 (limb 1 A), .int .u64 (limb 0 A)] := Box.call hb (by repeat (first | with_reducible assumption | with_reducible apply Box.set10 | with_reducible apply Box.set20 | with_reducible apply Box.set21 | with_reducible apply Box.set40 | with_reducible apply Box.set41 | with_reducible apply Box.set42 | with_reducible apply Box.set43 | with_reducible apply Box.set50 | with_reducible apply Box.set51 | with_reducible apply Box.set52 | with_reducible apply Box.set53 | with_reducible apply Box.set54 | with_reducible apply Box.drew | (with_reducible apply Box.newAt; (try simp only [World.size_alloc, World.size_setCell, World.size_drew]); done) | with_reducible apply Box.alloc | (with_reducible apply Box.other; case hne => ((try simp only [World.size_alloc, World.size_setCell, World.size_drew]); omega))))
  have X2' : Box w1 (w.heap.size + 1) #[.int .u64 (limb 1 B), .int .u64 (limb 0 B)] := Box.call hb (by repeat (first | with_reducible assumption | with_reducible apply Box.set10 | with_reducible apply Box.set20 | with_reducible apply Box.set21 | with_reducible apply Box.set40 | with_reducible apply Box.set41 | with_reducible apply Box.set42 | with_reducible apply Box.set43 | with_reducible apply Box.set50 | with_reducible apply Box.set51 | with_reducible apply Box.set52 | with_reducible apply Box.set53 | with_reducible apply Box.set54 | with_reducible apply Box.drew | (with_reducible apply Box.newAt; (try simp only [World.size_alloc, World.size_setCell, World.size_drew]); done) | with_reducible apply Box.alloc | (with_reducible apply Box.other; case hne => ((try simp only [World.size_alloc, World.size_setCell, World.size_drew]); omega))))
  have hk' : Kept w.heap.size w w1 := Kept.step (by repeat (first | with_reducible exact hk | with_reducible exact Kept.refl _ | with_reducible refine Kept.alloc ?_ _ | with_reducible refine Kept.drew ?_ | with_reducible refine Kept.setCell ?_ (by simp only [World.size_alloc, World.size_setCell, World.size_drew]; omega) _)) hb
  clear hk hb
  have X1 := X1'
  clear X1'
  have X2 := X2'
  clear X2'
  have hk := hk'
  clear hk'
  have hz_w1 := hk.size
  have X1l := X1.lt
  have X1f := X1.free
  have X1l1 : w.heap.size < w1.heap.size + 1 := by omega
  have X1l2 : w.heap.size < w1.heap.size + 1 + 1 := by omega
  have X1l3 : w.heap.size < w1.heap.size + 1 + 1 + 1 := by omega
  have X10 := X1.cell 0 _ rfl
  have X11 := X1.cell 1 _ rfl
  have X2l := X2.lt
  have X2f := X2.free
  have X2l1 : w.heap.size + 1 < w1.heap.size + 1 := by omega
  have X2l2 : w.heap.size + 1 < w1.heap.size + 1 + 1 := by omega
  have X2l3 : w.heap.size + 1 < w1.heap.size + 1 + 1 + 1 := by omega
  have X20 := X2.cell 0 _ rfl
  have X21 := X2.cell 1 _ rfl
  go_wp2_with fail
  (with_reducible refine (calls_to (V := .tuple #[bitsV D, .bool false]) (Sub_at (IsBits.of hA) (IsBits.of hB) _) (by rw [HD.out, HB.out])).mono ?_)
  rintro e w2 ⟨rfl, hb⟩
  have X1' : Box w2 (w.heap.size) #[.int .u64 (limb 1 A), .int .u64 (limb 0 A)] := Box.call hb (by repeat (first | with_reducible assumption | with_reducible apply Box.set10 | with_reducible apply Box.set20 | with_reducible apply Box.set21 | with_reducible apply Box.set40 | with_reducible apply Box.set41 | with_reducible apply Box.set42 | with_reducible apply Box.set43 | with_reducible apply Box.set50 | with_reducible apply Box.set51 | with_reducible apply Box.set52 | with_reducible apply Box.set53 | with_reducible apply Box.set54 | with_reducible apply Box.drew | (with_reducible apply Box.newAt; (try simp only [World.size_alloc, World.size_setCell, World.size_drew]); done) | with_reducible apply Box.alloc | (with_reducible apply Box.other; case hne => ((try simp only [World.size_alloc, World.size_setCell, World.size_drew]); omega))))
  have X2' : Box w2 (w.heap.size + 1) #[.int .u64 (limb 1 B), .int .u64 (limb 0 B)] := Box.call hb (by repeat (first | with_reducible assumption | with_reducible apply Box.set10 | with_reducible apply Box.set20 | with_reducible apply Box.set21 | with_reducible apply Box.set40 | with_reducible apply Box.set41 | with_reducible apply Box.set42 | with_reducible apply Box.set43 | with_reducible apply Box.set50 | with_reducible apply Box.set51 | with_reducible apply Box.set52 | with_reducible apply Box.set53 | with_reducible apply Box.set54 | with_reducible apply Box.drew | (with_reducible apply Box.newAt; (try simp only [World.size_alloc, World.size_setCell, World.size_drew]); done) | with_reducible apply Box.alloc | (with_reducible apply Box.other; case hne => ((try simp only [World.size_alloc, World.size_setCell, World.size_drew]); omega))))
  have X3' : Box w2 (w1.heap.size) #[.int .u64 (limb 1 S), .int .u64 (limb 0 S)] := Box.call hb (by repeat (first | with_reducible assumption | with_reducible apply Box.set10 | with_reducible apply Box.set20 | with_reducible apply Box.set21 | with_reducible apply Box.set40 | with_reducible apply Box.set41 | with_reducible apply Box.set42 | with_reducible apply Box.set43 | with_reducible apply Box.set50 | with_reducible apply Box.set51 | with_reducible apply Box.set52 | with_reducible apply Box.set53 | with_reducible apply Box.set54 | with_reducible apply Box.drew | (with_reducible apply Box.newAt; (try simp only [World.size_alloc, World.size_setCell, World.size_drew]); done) | with_reducible apply Box.alloc | (with_reducible apply Box.other; case hne => ((try simp only [World.size_alloc, World.size_setCell, World.size_drew]); omega))))
  have hk' : Kept w.heap.size w w2 := Kept.step (by repeat (first | with_reducible exact hk | with_reducible exact Kept.refl _ | with_reducible refine Kept.alloc ?_ _ | with_reducible refine Kept.drew ?_ | with_reducible refine Kept.setCell ?_ (by simp only [World.size_alloc, World.size_setCell, World.size_drew]; omega) _)) hb
  clear hk hb
  clear X1 X1l1 X1l2 X1l3 X1f X10 X11
  clear X2 X2l1 X2l2 X2l3 X2f X20 X21
  have X1 := X1'
  clear X1'
  have X2 := X2'
  clear X2'
  have X3 := X3'
  clear X3'
  have hk := hk'
  clear hk'
  have hz_w2 := hk.size
  have X1l := X1.lt
  have X1f := X1.free
  have X1l1 : w.heap.size < w2.heap.size + 1 := by omega
  have X1l2 : w.heap.size < w2.heap.size + 1 + 1 := by omega
  have X1l3 : w.heap.size < w2.heap.size + 1 + 1 + 1 := by omega
  have X10 := X1.cell 0 _ rfl
  have X11 := X1.cell 1 _ rfl
  have X2l := X2.lt
  have X2f := X2.free
  have X2l1 : w.heap.size + 1 < w2.heap.size + 1 := by omega
  have X2l2 : w.heap.size + 1 < w2.heap.size + 1 + 1 := by omega
  have X2l3 : w.heap.size + 1 < w2.heap.size + 1 + 1 + 1 := by omega
  have X20 := X2.cell 0 _ rfl
  have X21 := X2.cell 1 _ rfl
  have X3l := X3.lt
  have X3f := X3.free
  have X3l1 : w1.heap.size < w2.heap.size + 1 := by omega
  have X3l2 : w1.heap.size < w2.heap.size + 1 + 1 := by omega
  have X3l3 : w1.heap.size < w2.heap.size + 1 + 1 + 1 := by omega
  have X30 := X3.cell 0 _ rfl
  have X31 := X3.cell 1 _ rfl
  go_wp2
  refine wp_region_g 6 (fun W' => Kept w.heap.size w W' ∧ w2.heap.size + 1 ≤ W'.heap.size ∧ Box W' (w.heap.size) #[.int .u64 (limb 1 A), .int .u64 (limb 0 A)] ∧ Box W' (w.heap.size + 1) #[.int .u64 (limb 1 B), .int .u64 (limb 0 B)] ∧ Box W' (w1.heap.size) #[.int .u64 (limb 1 S), .int .u64 (limb 0 S)] ∧ Box W' (w2.heap.size) #[.int .u64 (limb 1 D), .int .u64 (limb 0 D)]) (fun W' => Kept w.heap.size w W' ∧ w2.heap.size + 1 ≤ W'.heap.size ∧ Box W' (w.heap.size) #[.int .u64 (limb 1 A), .int .u64 (limb 0 A)] ∧ Box W' (w.heap.size + 1) #[.int .u64 (limb 1 B), .int .u64 (limb 0 B)] ∧ Box W' (w1.heap.size) #[.int .u64 (limb 1 S), .int .u64 (limb 0 S)] ∧ Box W' (w2.heap.size) #[.int .u64 (limb 1 D), .int .u64 (limb 0 D)]) 1000 (w2.heap.size + 1) [.known (bitsV A), .num (A), .known (bitsV B), .num (B), .num (A), .num (B)] (by kernel_rfl) (by kernel_rfl) (fun W W' h hb => ⟨h.1.step hb, Nat.le_trans (h.2.1) hb.size, Box.call hb (h.2.2.1), Box.call hb (h.2.2.2.1), Box.call hb (h.2.2.2.2.1), Box.call hb (h.2.2.2.2.2)⟩) (fun W W' h hb => ⟨h.1.step hb, Nat.le_trans (h.2.1) hb.size, Box.call hb (h.2.2.1), Box.call hb (h.2.2.2.1), Box.call hb (h.2.2.2.2.1), Box.call hb (h.2.2.2.2.2)⟩) (no_out (of_decide_eq_true (by kernel_rfl))) (.inl (by kernel_rfl)) (.inl (by kernel_rfl)) (fun _ h => h.2.1) (fun _ h => h.2.1) (⟨(by repeat (first | with_reducible exact hk | with_reducible exact Kept.refl _ | with_reducible refine Kept.alloc ?_ _ | with_reducible refine Kept.drew ?_ | with_reducible refine Kept.setCell ?_ (by simp only [World.size_alloc, World.size_setCell, World.size_drew]; omega) _)), (by (try simp only [World.size_alloc, World.size_setCell, World.size_drew]); omega), (by repeat (first | with_reducible assumption | with_reducible apply Box.set10 | with_reducible apply Box.set20 | with_reducible apply Box.set21 | with_reducible apply Box.set40 | with_reducible apply Box.set41 | with_reducible apply Box.set42 | with_reducible apply Box.set43 | with_reducible apply Box.set50 | with_reducible apply Box.set51 | with_reducible apply Box.set52 | with_reducible apply Box.set53 | with_reducible apply Box.set54 | with_reducible apply Box.drew | (with_reducible apply Box.newAt; (try simp only [World.size_alloc, World.size_setCell, World.size_drew]); done) | with_reducible apply Box.alloc | (with_reducible apply Box.other; case hne => ((try simp only [World.size_alloc, World.size_setCell, World.size_drew]); omega)))), (by repeat (first | with_reducible assumption | with_reducible apply Box.set10 | with_reducible apply Box.set20 | with_reducible apply Box.set21 | with_reducible apply Box.set40 | with_reducible apply Box.set41 | with_reducible apply Box.set42 | with_reducible apply Box.set43 | with_reducible apply Box.set50 | with_reducible apply Box.set51 | with_reducible apply Box.set52 | with_reducible apply Box.set53 | with_reducible apply Box.set54 | with_reducible apply Box.drew | (with_reducible apply Box.newAt; (try simp only [World.size_alloc, World.size_setCell, World.size_drew]); done) | with_reducible apply Box.alloc | (with_reducible apply Box.other; case hne => ((try simp only [World.size_alloc, World.size_setCell, World.size_drew]); omega)))), (by repeat (first | with_reducible assumption | with_reducible apply Box.set10 | with_reducible apply Box.set20 | with_reducible apply Box.set21 | with_reducible apply Box.set40 | with_reducible apply Box.set41 | with_reducible apply Box.set42 | with_reducible apply Box.set43 | with_reducible apply Box.set50 | with_reducible apply Box.set51 | with_reducible apply Box.set52 | with_reducible apply Box.set53 | with_reducible apply Box.set54 | with_reducible apply Box.drew | (with_reducible apply Box.newAt; (try simp only [World.size_alloc, World.size_setCell, World.size_drew]); done) | with_reducible apply Box.alloc | (with_reducible apply Box.other; case hne => ((try simp only [World.size_alloc, World.size_setCell, World.size_drew]); omega)))), (by repeat (first | with_reducible assumption | with_reducible apply Box.set10 | with_reducible apply Box.set20 | with_reducible apply Box.set21 | with_reducible apply Box.set40 | with_reducible apply Box.set41 | with_reducible apply Box.set42 | with_reducible apply Box.set43 | with_reducible apply Box.set50 | with_reducible apply Box.set51 | with_reducible apply Box.set52 | with_reducible apply Box.set53 | with_reducible apply Box.set54 | with_reducible apply Box.drew | (with_reducible apply Box.newAt; (try simp only [World.size_alloc, World.size_setCell, World.size_drew]); done) | with_reducible apply Box.alloc | (with_reducible apply Box.other; case hne => ((try simp only [World.size_alloc, World.size_setCell, World.size_drew]); omega))))⟩) ?_
  clear hk
  clear X1 X1l1 X1l2 X1l3 X1f X10 X11
  clear X2 X2l1 X2l2 X2l3 X2f X20 X21
  clear X3 X3l1 X3l2 X3l3 X3f X30 X31
  intro ρ
  simp only [List.take_succ_cons, List.take_zero, List.drop_succ_cons, List.drop_zero]
  refine ⟨?_, ?_⟩
  · as_aux_lemma =>
    intro y_ hS_ hO_ hD
    have Q := ((hS_ (by rfl)).2.2.1).cell
    have q0 := Q 0 _ rfl
    have q1 := Q 1 _ rfl
    clear Q hS_ hO_ hD
    refine s_gen (V := bitsV A) [.pointer (some ⟨w.heap.size, 0, none⟩)] (by kernel_rfl) (by kernel_rfl) (by kernel_rfl) ?_
    intro r_ hr_
    have o0_ : r_ (.tmp 2) = .pointer (some ⟨w.heap.size, 0, none⟩) := op_at hr_ 0 (by kernel_rfl) (by kernel_rfl)
    clear hr_
    go_simp; first | done | with_reducible rfl
  simp only [Act.put, planVG, List.setIfInBounds_toArray, List.set_cons_zero, List.set_cons_succ, List.getElem?_cons_zero, List.getElem?_cons_succ]
  refine ⟨?_, ?_⟩
  · as_aux_lemma =>
    intro y_ hS_ hO_ hD
    try clear hS
    clear hS_ hO_ hD
    refine s_gcallN (A := A) [.func (.func 16) #[] #[], bitsV A] ?_ ?_ (by kernel_rfl) (by kernel_rfl) (by kernel_rfl) ?_ ?_
    rotate_left 2
    · intro r_ hr_
      have o0_ : r_ (.func 16) = .func (.func 16) #[] #[] := op_at hr_ 0 (by kernel_rfl) (by kernel_rfl)
      have o1_ : r_ (.tmp 26) = bitsV A := op_at hr_ 1 (by kernel_rfl) (by kernel_rfl)
      clear hr_
      go_simp; first | done | with_reducible rfl | (constructor <;> with_reducible rfl)
    · refine Big_any (IsBits.of hA).w _
  simp only [Act.put, planVG, List.setIfInBounds_toArray, List.set_cons_zero, List.set_cons_succ, List.getElem?_cons_zero, List.getElem?_cons_succ]
  refine ⟨?_, ?_⟩
  · as_aux_lemma =>
    intro y_ hS_ hO_ hD
    have Q := ((hS_ (by rfl)).2.2.2.1).cell
    have q0 := Q 0 _ rfl
    have q1 := Q 1 _ rfl
    clear Q hS_ hO_ hD
    refine s_gen (V := bitsV B) [.pointer (some ⟨w.heap.size + 1, 0, none⟩)] (by kernel_rfl) (by kernel_rfl) (by kernel_rfl) ?_
    intro r_ hr_
    have o0_ : r_ (.tmp 3) = .pointer (some ⟨w.heap.size + 1, 0, none⟩) := op_at hr_ 0 (by kernel_rfl) (by kernel_rfl)
    clear hr_
    go_simp; first | done | with_reducible rfl
  simp only [Act.put, planVG, List.setIfInBounds_toArray, List.set_cons_zero, List.set_cons_succ, List.getElem?_cons_zero, List.getElem?_cons_succ]
  refine ⟨?_, ?_⟩
  · as_aux_lemma =>
    intro y_ hS_ hO_ hD
    try clear hS
    clear hS_ hO_ hD
    refine s_gcallN (A := B) [.func (.func 16) #[] #[], bitsV B] ?_ ?_ (by kernel_rfl) (by kernel_rfl) (by kernel_rfl) ?_ ?_
    rotate_left 2
    · intro r_ hr_
      have o0_ : r_ (.func 16) = .func (.func 16) #[] #[] := op_at hr_ 0 (by kernel_rfl) (by kernel_rfl)
      have o1_ : r_ (.tmp 28) = bitsV B := op_at hr_ 1 (by kernel_rfl) (by kernel_rfl)
      clear hr_
      go_simp; first | done | with_reducible rfl | (constructor <;> with_reducible rfl)
    · refine Big_any (IsBits.of hB).w _
  simp only [Act.put, planVG, List.setIfInBounds_toArray, List.set_cons_zero, List.set_cons_succ, List.getElem?_cons_zero, List.getElem?_cons_succ]
  refine ⟨?_, ?_⟩
  · as_aux_lemma =>
    intro y_ hS_ hO_ hD
    have hS := hS_ (by rfl)
    have n_ : IsN y_ (ρ 1) (A) := hD 1 (by decide) (by rfl)
    clear hS hS_ hO_ hD
    exact s_num (by rfl) (by rfl) (by rfl) n_
  simp only [Act.put, planVG, List.setIfInBounds_toArray, List.set_cons_zero, List.set_cons_succ, List.getElem?_cons_zero, List.getElem?_cons_succ]
  refine ⟨?_, ?_⟩
  · as_aux_lemma =>
    intro y_ hS_ hO_ hD
    have hS := hS_ (by rfl)
    have n_ : IsN y_ (ρ 3) (B) := hD 3 (by decide) (by rfl)
    clear hS hS_ hO_ hD
    exact s_num (by rfl) (by rfl) (by rfl) n_
  simp only [Act.put, planVG, List.setIfInBounds_toArray, List.set_cons_zero, List.set_cons_succ, List.getElem?_cons_zero, List.getElem?_cons_succ]
  as_aux_lemma =>
    intro w3 hS hF hD_
    change wpList _ _ _ _ _ _
    replace hS := sg_no (by decide) hS
    obtain ⟨hk, hZ3, X1, X2, X3, X4⟩ := hS
    have M1 : IsN w3 (ρ 1) (A) := hF 1 (by decide)
    have M3 : IsN w3 (ρ 3) (B) := hF 3 (by decide)
    have M4 : IsN w3 (ρ 4) (A) := hF 4 (by decide)
    have M5 : IsN w3 (ρ 5) (B) := hF 5 (by decide)
    clear hF hD_
    generalize ρ 1 = u3_1 at *
    generalize ρ 3 = u3_3 at *
    generalize ρ 4 = u3_4 at *
    generalize ρ 5 = u3_5 at *
    clear ρ
    have hz_w3 := hk.size
    have X1l := X1.lt
    have X1f := X1.free
    have X1l1 : w.heap.size < w3.heap.size + 1 := by omega
    have X1l2 : w.heap.size < w3.heap.size + 1 + 1 := by omega
    have X1l3 : w.heap.size < w3.heap.size + 1 + 1 + 1 := by omega
    have X10 := X1.cell 0 _ rfl
    have X11 := X1.cell 1 _ rfl
    have X2l := X2.lt
    have X2f := X2.free
    have X2l1 : w.heap.size + 1 < w3.heap.size + 1 := by omega
    have X2l2 : w.heap.size + 1 < w3.heap.size + 1 + 1 := by omega
    have X2l3 : w.heap.size + 1 < w3.heap.size + 1 + 1 + 1 := by omega
    have X20 := X2.cell 0 _ rfl
    have X21 := X2.cell 1 _ rfl
    have X3l := X3.lt
    have X3f := X3.free
    have X3l1 : w1.heap.size < w3.heap.size + 1 := by omega
    have X3l2 : w1.heap.size < w3.heap.size + 1 + 1 := by omega
    have X3l3 : w1.heap.size < w3.heap.size + 1 + 1 + 1 := by omega
    have X30 := X3.cell 0 _ rfl
    have X31 := X3.cell 1 _ rfl
    have X4l := X4.lt
    have X4f := X4.free
    have X4l1 : w2.heap.size < w3.heap.size + 1 := by omega
    have X4l2 : w2.heap.size < w3.heap.size + 1 + 1 := by omega
    have X4l3 : w2.heap.size < w3.heap.size + 1 + 1 + 1 := by omega
    have X40 := X4.cell 0 _ rfl
    have X41 := X4.cell 1 _ rfl
    clear M1
    clear M3
    have N3 := M4
    clear M4
    have N4 := M5
    clear M5
    go_wp2_with fail
    (with_reducible refine (refAdd_any _ (IsN.kept N3 (by repeat (first | with_reducible exact Kept.refl _ | with_reducible refine Kept.alloc ?_ _ | with_reducible refine Kept.drew ?_ | with_reducible refine Kept.setCell ?_ (by simp only [World.size_alloc, World.size_setCell, World.size_drew]; omega) _))) (IsN.kept N4 (by repeat (first | with_reducible exact Kept.refl _ | with_reducible refine Kept.alloc ?_ _ | with_reducible refine Kept.drew ?_ | with_reducible refine Kept.setCell ?_ (by simp only [World.size_alloc, World.size_setCell, World.size_drew]; omega) _))) (by omega) (by omega)).mono ?_)
    rintro e w4 ⟨vN5, rfl, N5_, hb⟩
    have X3' : Box w4 (w1.heap.size) #[.int .u64 (limb 1 S), .int .u64 (limb 0 S)] := Box.call hb (by repeat (first | with_reducible assumption | with_reducible apply Box.set10 | with_reducible apply Box.set20 | with_reducible apply Box.set21 | with_reducible apply Box.set40 | with_reducible apply Box.set41 | with_reducible apply Box.set42 | with_reducible apply Box.set43 | with_reducible apply Box.set50 | with_reducible apply Box.set51 | with_reducible apply Box.set52 | with_reducible apply Box.set53 | with_reducible apply Box.set54 | with_reducible apply Box.drew | (with_reducible apply Box.newAt; (try simp only [World.size_alloc, World.size_setCell, World.size_drew]); done) | with_reducible apply Box.alloc | (with_reducible apply Box.other; case hne => ((try simp only [World.size_alloc, World.size_setCell, World.size_drew]); omega))))
    have X4' : Box w4 (w2.heap.size) #[.int .u64 (limb 1 D), .int .u64 (limb 0 D)] := Box.call hb (by repeat (first | with_reducible assumption | with_reducible apply Box.set10 | with_reducible apply Box.set20 | with_reducible apply Box.set21 | with_reducible apply Box.set40 | with_reducible apply Box.set41 | with_reducible apply Box.set42 | with_reducible apply Box.set43 | with_reducible apply Box.set50 | with_reducible apply Box.set51 | with_reducible apply Box.set52 | with_reducible apply Box.set53 | with_reducible apply Box.set54 | with_reducible apply Box.drew | (with_reducible apply Box.newAt; (try simp only [World.size_alloc, World.size_setCell, World.size_drew]); done) | with_reducible apply Box.alloc | (with_reducible apply Box.other; case hne => ((try simp only [World.size_alloc, World.size_setCell, World.size_drew]); omega))))
    have N3' : IsN w4 u3_4 (A) := (IsN.kept N3 (by repeat (first | with_reducible exact Kept.refl _ | with_reducible refine Kept.alloc ?_ _ | with_reducible refine Kept.drew ?_ | with_reducible refine Kept.setCell ?_ (by simp only [World.size_alloc, World.size_setCell, World.size_drew]; omega) _))).call hb
    have N4' : IsN w4 u3_5 (B) := (IsN.kept N4 (by repeat (first | with_reducible exact Kept.refl _ | with_reducible refine Kept.alloc ?_ _ | with_reducible refine Kept.drew ?_ | with_reducible refine Kept.setCell ?_ (by simp only [World.size_alloc, World.size_setCell, World.size_drew]; omega) _))).call hb
    have hk' : Kept w.heap.size w w4 := Kept.step (by repeat (first | with_reducible exact hk | with_reducible exact Kept.refl _ | with_reducible refine Kept.alloc ?_ _ | with_reducible refine Kept.drew ?_ | with_reducible refine Kept.setCell ?_ (by simp only [World.size_alloc, World.size_setCell, World.size_drew]; omega) _)) hb
    clear hk hb
    clear X1 X1l1 X1l2 X1l3 X1f X10 X11
    clear X2 X2l1 X2l2 X2l3 X2f X20 X21
    clear X3 X3l1 X3l2 X3l3 X3f X30 X31
    clear X4 X4l1 X4l2 X4l3 X4f X40 X41
    have X3 := X3'
    clear X3'
    have X4 := X4'
    clear X4'
    clear N3
    have N3 := N3'
    clear N3'
    clear N4
    have N4 := N4'
    clear N4'
    have hk := hk'
    clear hk'
    have hz_w4 := hk.size
    have X3l := X3.lt
    have X3f := X3.free
    have X3l1 : w1.heap.size < w4.heap.size + 1 := by omega
    have X3l2 : w1.heap.size < w4.heap.size + 1 + 1 := by omega
    have X3l3 : w1.heap.size < w4.heap.size + 1 + 1 + 1 := by omega
    have X30 := X3.cell 0 _ rfl
    have X31 := X3.cell 1 _ rfl
    have X4l := X4.lt
    have X4f := X4.free
    have X4l1 : w2.heap.size < w4.heap.size + 1 := by omega
    have X4l2 : w2.heap.size < w4.heap.size + 1 + 1 := by omega
    have X4l3 : w2.heap.size < w4.heap.size + 1 + 1 + 1 := by omega
    have X40 := X4.cell 0 _ rfl
    have X41 := X4.cell 1 _ rfl
    have N5 : IsN w4 vN5 (A + B) := N5_
    clear N5_
    go_wp2_with fail
    (with_reducible refine (refFullF HF.out (by omega) (by omega) _).mono ?_)
    rintro e w5 ⟨vN6, rfl, N6_, hb⟩
    have X3' : Box w5 (w1.heap.size) #[.int .u64 (limb 1 S), .int .u64 (limb 0 S)] := Box.call hb (by repeat (first | with_reducible assumption | with_reducible apply Box.set10 | with_reducible apply Box.set20 | with_reducible apply Box.set21 | with_reducible apply Box.set40 | with_reducible apply Box.set41 | with_reducible apply Box.set42 | with_reducible apply Box.set43 | with_reducible apply Box.set50 | with_reducible apply Box.set51 | with_reducible apply Box.set52 | with_reducible apply Box.set53 | with_reducible apply Box.set54 | with_reducible apply Box.drew | (with_reducible apply Box.newAt; (try simp only [World.size_alloc, World.size_setCell, World.size_drew]); done) | with_reducible apply Box.alloc | (with_reducible apply Box.other; case hne => ((try simp only [World.size_alloc, World.size_setCell, World.size_drew]); omega))))
    have X4' : Box w5 (w2.heap.size) #[.int .u64 (limb 1 D), .int .u64 (limb 0 D)] := Box.call hb (by repeat (first | with_reducible assumption | with_reducible apply Box.set10 | with_reducible apply Box.set20 | with_reducible apply Box.set21 | with_reducible apply Box.set40 | with_reducible apply Box.set41 | with_reducible apply Box.set42 | with_reducible apply Box.set43 | with_reducible apply Box.set50 | with_reducible apply Box.set51 | with_reducible apply Box.set52 | with_reducible apply Box.set53 | with_reducible apply Box.set54 | with_reducible apply Box.drew | (with_reducible apply Box.newAt; (try simp only [World.size_alloc, World.size_setCell, World.size_drew]); done) | with_reducible apply Box.alloc | (with_reducible apply Box.other; case hne => ((try simp only [World.size_alloc, World.size_setCell, World.size_drew]); omega))))
    have N3' : IsN w5 u3_4 (A) := (IsN.kept N3 (by repeat (first | with_reducible exact Kept.refl _ | with_reducible refine Kept.alloc ?_ _ | with_reducible refine Kept.drew ?_ | with_reducible refine Kept.setCell ?_ (by simp only [World.size_alloc, World.size_setCell, World.size_drew]; omega) _))).call hb
    have N4' : IsN w5 u3_5 (B) := (IsN.kept N4 (by repeat (first | with_reducible exact Kept.refl _ | with_reducible refine Kept.alloc ?_ _ | with_reducible refine Kept.drew ?_ | with_reducible refine Kept.setCell ?_ (by simp only [World.size_alloc, World.size_setCell, World.size_drew]; omega) _))).call hb
    have N5' : IsN w5 vN5 (A + B) := (IsN.kept N5 (by repeat (first | with_reducible exact Kept.refl _ | with_reducible refine Kept.alloc ?_ _ | with_reducible refine Kept.drew ?_ | with_reducible refine Kept.setCell ?_ (by simp only [World.size_alloc, World.size_setCell, World.size_drew]; omega) _))).call hb
    have hk' : Kept w.heap.size w w5 := Kept.step (by repeat (first | with_reducible exact hk | with_reducible exact Kept.refl _ | with_reducible refine Kept.alloc ?_ _ | with_reducible refine Kept.drew ?_ | with_reducible refine Kept.setCell ?_ (by simp only [World.size_alloc, World.size_setCell, World.size_drew]; omega) _)) hb
    clear hk hb
    clear X3 X3l1 X3l2 X3l3 X3f X30 X31
    clear X4 X4l1 X4l2 X4l3 X4f X40 X41
    have X3 := X3'
    clear X3'
    have X4 := X4'
    clear X4'
    clear N3
    have N3 := N3'
    clear N3'
    clear N4
    have N4 := N4'
    clear N4'
    clear N5
    have N5 := N5'
    clear N5'
    have hk := hk'
    clear hk'
    have hz_w5 := hk.size
    have X3l := X3.lt
    have X3f := X3.free
    have X3l1 : w1.heap.size < w5.heap.size + 1 := by omega
    have X3l2 : w1.heap.size < w5.heap.size + 1 + 1 := by omega
    have X3l3 : w1.heap.size < w5.heap.size + 1 + 1 + 1 := by omega
    have X30 := X3.cell 0 _ rfl
    have X31 := X3.cell 1 _ rfl
    have X4l := X4.lt
    have X4f := X4.free
    have X4l1 : w2.heap.size < w5.heap.size + 1 := by omega
    have X4l2 : w2.heap.size < w5.heap.size + 1 + 1 := by omega
    have X4l3 : w2.heap.size < w5.heap.size + 1 + 1 + 1 := by omega
    have X40 := X4.cell 0 _ rfl
    have X41 := X4.cell 1 _ rfl
    have N6 : IsN w5 vN6 (Z) := N6_
    clear N6_
    go_wp2_with fail
    (with_reducible refine (refCmp_any _ (IsN.kept N3 (by repeat (first | with_reducible exact Kept.refl _ | with_reducible refine Kept.alloc ?_ _ | with_reducible refine Kept.drew ?_ | with_reducible refine Kept.setCell ?_ (by simp only [World.size_alloc, World.size_setCell, World.size_drew]; omega) _))) (IsN.kept N4 (by repeat (first | with_reducible exact Kept.refl _ | with_reducible refine Kept.alloc ?_ _ | with_reducible refine Kept.drew ?_ | with_reducible refine Kept.setCell ?_ (by simp only [World.size_alloc, World.size_setCell, World.size_drew]; omega) _))) (by omega) (by omega)).mono ?_)
    rintro e w6 ⟨rfl, hb⟩
    have X3' : Box w6 (w1.heap.size) #[.int .u64 (limb 1 S), .int .u64 (limb 0 S)] := Box.call hb (by repeat (first | with_reducible assumption | with_reducible apply Box.set10 | with_reducible apply Box.set20 | with_reducible apply Box.set21 | with_reducible apply Box.set40 | with_reducible apply Box.set41 | with_reducible apply Box.set42 | with_reducible apply Box.set43 | with_reducible apply Box.set50 | with_reducible apply Box.set51 | with_reducible apply Box.set52 | with_reducible apply Box.set53 | with_reducible apply Box.set54 | with_reducible apply Box.drew | (with_reducible apply Box.newAt; (try simp only [World.size_alloc, World.size_setCell, World.size_drew]); done) | with_reducible apply Box.alloc | (with_reducible apply Box.other; case hne => ((try simp only [World.size_alloc, World.size_setCell, World.size_drew]); omega))))
    have X4' : Box w6 (w2.heap.size) #[.int .u64 (limb 1 D), .int .u64 (limb 0 D)] := Box.call hb (by repeat (first | with_reducible assumption | with_reducible apply Box.set10 | with_reducible apply Box.set20 | with_reducible apply Box.set21 | with_reducible apply Box.set40 | with_reducible apply Box.set41 | with_reducible apply Box.set42 | with_reducible apply Box.set43 | with_reducible apply Box.set50 | with_reducible apply Box.set51 | with_reducible apply Box.set52 | with_reducible apply Box.set53 | with_reducible apply Box.set54 | with_reducible apply Box.drew | (with_reducible apply Box.newAt; (try simp only [World.size_alloc, World.size_setCell, World.size_drew]); done) | with_reducible apply Box.alloc | (with_reducible apply Box.other; case hne => ((try simp only [World.size_alloc, World.size_setCell, World.size_drew]); omega))))
    have N3' : IsN w6 u3_4 (A) := (IsN.kept N3 (by repeat (first | with_reducible exact Kept.refl _ | with_reducible refine Kept.alloc ?_ _ | with_reducible refine Kept.drew ?_ | with_reducible refine Kept.setCell ?_ (by simp only [World.size_alloc, World.size_setCell, World.size_drew]; omega) _))).call hb
    have N4' : IsN w6 u3_5 (B) := (IsN.kept N4 (by repeat (first | with_reducible exact Kept.refl _ | with_reducible refine Kept.alloc ?_ _ | with_reducible refine Kept.drew ?_ | with_reducible refine Kept.setCell ?_ (by simp only [World.size_alloc, World.size_setCell, World.size_drew]; omega) _))).call hb
    have N5' : IsN w6 vN5 (A + B) := (IsN.kept N5 (by repeat (first | with_reducible exact Kept.refl _ | with_reducible refine Kept.alloc ?_ _ | with_reducible refine Kept.drew ?_ | with_reducible refine Kept.setCell ?_ (by simp only [World.size_alloc, World.size_setCell, World.size_drew]; omega) _))).call hb
    have N6' : IsN w6 vN6 (Z) := (IsN.kept N6 (by repeat (first | with_reducible exact Kept.refl _ | with_reducible refine Kept.alloc ?_ _ | with_reducible refine Kept.drew ?_ | with_reducible refine Kept.setCell ?_ (by simp only [World.size_alloc, World.size_setCell, World.size_drew]; omega) _))).call hb
    have hk' : Kept w.heap.size w w6 := Kept.step (by repeat (first | with_reducible exact hk | with_reducible exact Kept.refl _ | with_reducible refine Kept.alloc ?_ _ | with_reducible refine Kept.drew ?_ | with_reducible refine Kept.setCell ?_ (by simp only [World.size_alloc, World.size_setCell, World.size_drew]; omega) _)) hb
    clear hk hb
    clear X3 X3l1 X3l2 X3l3 X3f X30 X31
    clear X4 X4l1 X4l2 X4l3 X4f X40 X41
    have X3 := X3'
    clear X3'
    have X4 := X4'
    clear X4'
    clear N3
    have N3 := N3'
    clear N3'
    clear N4
    have N4 := N4'
    clear N4'
    clear N5
    have N5 := N5'
    clear N5'
    clear N6
    have N6 := N6'
    clear N6'
    have hk := hk'
    clear hk'
    have hz_w6 := hk.size
    have X3l := X3.lt
    have X3f := X3.free
    have X3l1 : w1.heap.size < w6.heap.size + 1 := by omega
    have X3l2 : w1.heap.size < w6.heap.size + 1 + 1 := by omega
    have X3l3 : w1.heap.size < w6.heap.size + 1 + 1 + 1 := by omega
    have X30 := X3.cell 0 _ rfl
    have X31 := X3.cell 1 _ rfl
    have X4l := X4.lt
    have X4f := X4.free
    have X4l1 : w2.heap.size < w6.heap.size + 1 := by omega
    have X4l2 : w2.heap.size < w6.heap.size + 1 + 1 := by omega
    have X4l3 : w2.heap.size < w6.heap.size + 1 + 1 + 1 := by omega
    have X40 := X4.cell 0 _ rfl
    have X41 := X4.cell 1 _ rfl
    go_wp2
    refine wp_region_g 29 (fun W' => Kept w.heap.size w W' ∧ w6.heap.size ≤ W'.heap.size ∧ Box W' (w1.heap.size) #[.int .u64 (limb 1 S), .int .u64 (limb 0 S)] ∧ Box W' (w2.heap.size) #[.int .u64 (limb 1 D), .int .u64 (limb 0 D)] ∧ IsN W' u3_4 (A) ∧ IsN W' u3_5 (B) ∧ IsN W' vN5 (A + B) ∧ IsN W' vN6 (Z)) (fun W' => Kept w.heap.size w W' ∧ w6.heap.size ≤ W'.heap.size ∧ Box W' (w1.heap.size) #[.int .u64 (limb 1 S), .int .u64 (limb 0 S)] ∧ Box W' (w2.heap.size) #[.int .u64 (limb 1 D), .int .u64 (limb 0 D)] ∧ IsN W' u3_4 (A) ∧ IsN W' u3_5 (B) ∧ IsN W' vN5 (A + B) ∧ IsN W' vN6 (Z)) 1000 (w6.heap.size) [.known (bitsV S), .num (A + B), .known (bitsV S), .known (.bool true), .known (.bool true), .known (.bool false), .num (A + B), .num (Z), .known (.int .i64 (cmpN (A + B) Z)), .known (.bool false), .known (.bool true), .known (.bool true), .known (.bool true), .known (bitsV D), .num (A), .num (B), .num (A - B), .known (bitsV D), .known (.bool true), .known (.bool true), .known (.bool true), .known (.bool false), .known (.bool false), .known (.bool true), .known (.bool true), .known (.bool true), .known (.bool true), .known (.bool true), .known (.bool true)] (by kernel_rfl) (by kernel_rfl) (fun W W' h hb => ⟨h.1.step hb, Nat.le_trans (h.2.1) hb.size, Box.call hb (h.2.2.1), Box.call hb (h.2.2.2.1), IsN.call (h.2.2.2.2.1) hb, IsN.call (h.2.2.2.2.2.1) hb, IsN.call (h.2.2.2.2.2.2.1) hb, IsN.call (h.2.2.2.2.2.2.2) hb⟩) (fun W W' h hb => ⟨h.1.step hb, Nat.le_trans (h.2.1) hb.size, Box.call hb (h.2.2.1), Box.call hb (h.2.2.2.1), IsN.call (h.2.2.2.2.1) hb, IsN.call (h.2.2.2.2.2.1) hb, IsN.call (h.2.2.2.2.2.2.1) hb, IsN.call (h.2.2.2.2.2.2.2) hb⟩) (no_out (of_decide_eq_true (by kernel_rfl))) (.inl (by kernel_rfl)) (.inl (by kernel_rfl)) (fun _ h => h.2.1) (fun _ h => h.2.1) (⟨(by repeat (first | with_reducible exact hk | with_reducible exact Kept.refl _ | with_reducible refine Kept.alloc ?_ _ | with_reducible refine Kept.drew ?_ | with_reducible refine Kept.setCell ?_ (by simp only [World.size_alloc, World.size_setCell, World.size_drew]; omega) _)), (by (try simp only [World.size_alloc, World.size_setCell, World.size_drew]); omega), (by repeat (first | with_reducible assumption | with_reducible apply Box.set10 | with_reducible apply Box.set20 | with_reducible apply Box.set21 | with_reducible apply Box.set40 | with_reducible apply Box.set41 | with_reducible apply Box.set42 | with_reducible apply Box.set43 | with_reducible apply Box.set50 | with_reducible apply Box.set51 | with_reducible apply Box.set52 | with_reducible apply Box.set53 | with_reducible apply Box.set54 | with_reducible apply Box.drew | (with_reducible apply Box.newAt; (try simp only [World.size_alloc, World.size_setCell, World.size_drew]); done) | with_reducible apply Box.alloc | (with_reducible apply Box.other; case hne => ((try simp only [World.size_alloc, World.size_setCell, World.size_drew]); omega)))), (by repeat (first | with_reducible assumption | with_reducible apply Box.set10 | with_reducible apply Box.set20 | with_reducible apply Box.set21 | with_reducible apply Box.set40 | with_reducible apply Box.set41 | with_reducible apply Box.set42 | with_reducible apply Box.set43 | with_reducible apply Box.set50 | with_reducible apply Box.set51 | with_reducible apply Box.set52 | with_reducible apply Box.set53 | with_reducible apply Box.set54 | with_reducible apply Box.drew | (with_reducible apply Box.newAt; (try simp only [World.size_alloc, World.size_setCell, World.size_drew]); done) | with_reducible apply Box.alloc | (with_reducible apply Box.other; case hne => ((try simp only [World.size_alloc, World.size_setCell, World.size_drew]); omega)))), (IsN.drew (IsN.kept N3 (by repeat (first | with_reducible exact Kept.refl _ | with_reducible refine Kept.alloc ?_ _ | with_reducible refine Kept.drew ?_ | with_reducible refine Kept.setCell ?_ (by simp only [World.size_alloc, World.size_setCell, World.size_drew]; omega) _)))), (IsN.drew (IsN.kept N4 (by repeat (first | with_reducible exact Kept.refl _ | with_reducible refine Kept.alloc ?_ _ | with_reducible refine Kept.drew ?_ | with_reducible refine Kept.setCell ?_ (by simp only [World.size_alloc, World.size_setCell, World.size_drew]; omega) _)))), (IsN.drew (IsN.kept N5 (by repeat (first | with_reducible exact Kept.refl _ | with_reducible refine Kept.alloc ?_ _ | with_reducible refine Kept.drew ?_ | with_reducible refine Kept.setCell ?_ (by simp only [World.size_alloc, World.size_setCell, World.size_drew]; omega) _)))), (IsN.drew (IsN.kept N6 (by repeat (first | with_reducible exact Kept.refl _ | with_reducible refine Kept.alloc ?_ _ | with_reducible refine Kept.drew ?_ | with_reducible refine Kept.setCell ?_ (by simp only [World.size_alloc, World.size_setCell, World.size_drew]; omega) _))))⟩) ?_
    clear hk
    clear X3 X3l1 X3l2 X3l3 X3f X30 X31
    clear X4 X4l1 X4l2 X4l3 X4f X40 X41
    clear N3
    clear N4
    clear N5
    clear N6
    intro ρ
    simp only [List.take_succ_cons, List.take_zero, List.drop_succ_cons, List.drop_zero]
    refine ⟨?_, ?_⟩
    · as_aux_lemma =>
      intro y_ hS_ hO_ hD
      have Q := ((hS_ (by rfl)).2.2.1).cell
      have q0 := Q 0 _ rfl
      have q1 := Q 1 _ rfl
      clear Q hS_ hO_ hD
      refine s_gen (V := bitsV S) [.pointer (some ⟨w1.heap.size, 0, none⟩)] (by kernel_rfl) (by kernel_rfl) (by kernel_rfl) ?_
      intro r_ hr_
      have o0_ : r_ (.tmp 5) = .pointer (some ⟨w1.heap.size, 0, none⟩) := op_at hr_ 0 (by kernel_rfl) (by kernel_rfl)
      clear hr_
      go_simp; first | done | with_reducible rfl
    simp only [Act.put, planVG, List.setIfInBounds_toArray, List.set_cons_zero, List.set_cons_succ, List.getElem?_cons_zero, List.getElem?_cons_succ]
    refine ⟨?_, ?_⟩
    · as_aux_lemma =>
      intro y_ hS_ hO_ hD
      have hS := hS_ (by rfl)
      have n_ : IsN y_ (vN5) (A + B) := hS.2.2.2.2.2.2.1
      clear hS hS_ hO_ hD
      exact s_num (by rfl) (by rfl) (by rfl) n_
    simp only [Act.put, planVG, List.setIfInBounds_toArray, List.set_cons_zero, List.set_cons_succ, List.getElem?_cons_zero, List.getElem?_cons_succ]
    refine ⟨?_, ?_⟩
    · as_aux_lemma =>
      intro y_ hS_ hO_ hD
      have n_1 : IsN y_ (ρ 1) (A + B) := hD 1 (by decide) (by rfl)
      try clear hS
      clear hS_ hO_ hD
      refine s_gcall (V := bitsV S) [.func (.func 22) #[] #[], ρ 1] ?_ ?_ (by kernel_rfl) (by kernel_rfl) (by kernel_rfl) ?_ ?_
      rotate_left 2
      · intro r_ hr_
        have o0_ : r_ (.func 22) = .func (.func 22) #[] #[] := op_at hr_ 0 (by kernel_rfl) (by kernel_rfl)
        have o1_ : r_ (.tmp 43) = ρ 1 := op_at hr_ 1 (by kernel_rfl) (by kernel_rfl)
        clear hr_
        go_simp; first | done | with_reducible rfl | (constructor <;> with_reducible rfl)
      · refine Bits_eq HE1.out _ n_1 (by omega)
    simp only [Act.put, planVG, List.setIfInBounds_toArray, List.set_cons_zero, List.set_cons_succ, List.getElem?_cons_zero, List.getElem?_cons_succ]
    refine ⟨?_, ?_⟩
    · as_aux_lemma =>
      intro y_ hS_ hO_ hD
      clear hS_ hO_ hD
      refine s_gen (V := .bool true) [bitsV S, bitsV S] (by kernel_rfl) (by kernel_rfl) (by kernel_rfl) ?_
      intro r_ hr_
      have o0_ : r_ (.tmp 42) = bitsV S := op_at hr_ 0 (by kernel_rfl) (by kernel_rfl)
      have o1_ : r_ (.tmp 44) = bitsV S := op_at hr_ 1 (by kernel_rfl) (by kernel_rfl)
      clear hr_
      go_simp; first | done | with_reducible rfl | omega
    simp only [Act.put, planVG, List.setIfInBounds_toArray, List.set_cons_zero, List.set_cons_succ, List.getElem?_cons_zero, List.getElem?_cons_succ]
    refine ⟨?_, ?_⟩
    · as_aux_lemma =>
      intro y_ hS_ hO_ hD
      clear hS_ hO_ hD
      refine s_gen (V := .bool true) [.bool true] (by kernel_rfl) (by kernel_rfl) (by kernel_rfl) ?_
      intro r_ hr_
      have o0_ : r_ (.tmp 45) = .bool true := op_at hr_ 0 (by kernel_rfl) (by kernel_rfl)
      clear hr_
      go_simp; first | done | with_reducible rfl | omega
    simp only [Act.put, planVG, List.setIfInBounds_toArray, List.set_cons_zero, List.set_cons_succ, List.getElem?_cons_zero, List.getElem?_cons_succ]
    refine ⟨?_, ?_⟩
    · as_aux_lemma =>
      intro y_ hS_ hO_ hD
      clear hS_ hO_ hD
      refine s_gen (V := .bool false) [.bool false] (by kernel_rfl) (by kernel_rfl) (by kernel_rfl) ?_
      intro r_ hr_
      have o0_ : r_ (.tmp 6) = .bool false := op_at hr_ 0 (by kernel_rfl) (by kernel_rfl)
      clear hr_
      go_simp; first | done | with_reducible rfl | omega
    simp only [Act.put, planVG, List.setIfInBounds_toArray, List.set_cons_zero, List.set_cons_succ, List.getElem?_cons_zero, List.getElem?_cons_succ]
    refine ⟨?_, ?_⟩
    · as_aux_lemma =>
      intro y_ hS_ hO_ hD
      have hS := hS_ (by rfl)
      have n_ : IsN y_ (vN5) (A + B) := hS.2.2.2.2.2.2.1
      clear hS hS_ hO_ hD
      exact s_num (by rfl) (by rfl) (by rfl) n_
    simp only [Act.put, planVG, List.setIfInBounds_toArray, List.set_cons_zero, List.set_cons_succ, List.getElem?_cons_zero, List.getElem?_cons_succ]
    refine ⟨?_, ?_⟩
    · as_aux_lemma =>
      intro y_ hS_ hO_ hD
      have hS := hS_ (by rfl)
      have n_ : IsN y_ (vN6) (Z) := hS.2.2.2.2.2.2.2
      clear hS hS_ hO_ hD
      exact s_num (by rfl) (by rfl) (by rfl) n_
    simp only [Act.put, planVG, List.setIfInBounds_toArray, List.set_cons_zero, List.set_cons_succ, List.getElem?_cons_zero, List.getElem?_cons_succ]
    refine ⟨?_, ?_⟩
    · as_aux_lemma =>
      intro y_ hS_ hO_ hD
      have n_6 : IsN y_ (ρ 6) (A + B) := hD 6 (by decide) (by rfl)
      have n_7 : IsN y_ (ρ 7) (Z) := hD 7 (by decide) (by rfl)
      try clear hS
      clear hS_ hO_ hD
      refine s_gcall (V := .int .i64 (cmpN (A + B) Z)) [.func (.func 30) #[] #[], ρ 6, ρ 7] ?_ ?_ (by kernel_rfl) (by kernel_rfl) (by kernel_rfl) ?_ ?_
      rotate_left 2
      · intro r_ hr_
        have o0_ : r_ (.func 30) = .func (.func 30) #[] #[] := op_at hr_ 0 (by kernel_rfl) (by kernel_rfl)
        have o1_ : r_ (.tmp 48) = ρ 6 := op_at hr_ 1 (by kernel_rfl) (by kernel_rfl)
        have o2_ : r_ (.tmp 49) = ρ 7 := op_at hr_ 2 (by kernel_rfl) (by kernel_rfl)
        clear hr_
        go_simp; first | done | with_reducible rfl | (constructor <;> with_reducible rfl)
      · refine refCmp_any _ n_6 n_7 (by omega) (by omega)
    simp only [Act.put, planVG, List.setIfInBounds_toArray, List.set_cons_zero, List.set_cons_succ, List.getElem?_cons_zero, List.getElem?_cons_succ]
    refine ⟨?_, ?_⟩
    · as_aux_lemma =>
      intro y_ hS_ hO_ hD
      clear hS_ hO_ hD
      refine s_gen (V := .bool false) [.int .i64 (cmpN (A + B) Z), .int .i64 0] (by kernel_rfl) (by kernel_rfl) (by kernel_rfl) ?_
      intro r_ hr_
      have o0_ : r_ (.tmp 50) = .int .i64 (cmpN (A + B) Z) := op_at hr_ 0 (by kernel_rfl) (by kernel_rfl)
      have o1_ : r_ (.const (.int .i64 0)) = .int .i64 0 := op_at hr_ 1 (by kernel_rfl) (by kernel_rfl)
      clear hr_
      go_simp; first | done | with_reducible rfl | omega
    simp only [Act.put, planVG, List.setIfInBounds_toArray, List.set_cons_zero, List.set_cons_succ, List.getElem?_cons_zero, List.getElem?_cons_succ]
    refine ⟨?_, ?_⟩
    · as_aux_lemma =>
      intro y_ hS_ hO_ hD
      clear hS_ hO_ hD
      refine s_gen (V := .bool true) [.bool false, .bool false] (by kernel_rfl) (by kernel_rfl) (by kernel_rfl) ?_
      intro r_ hr_
      have o0_ : r_ (.tmp 47) = .bool false := op_at hr_ 0 (by kernel_rfl) (by kernel_rfl)
      have o1_ : r_ (.tmp 51) = .bool false := op_at hr_ 1 (by kernel_rfl) (by kernel_rfl)
      clear hr_
      go_simp; first | done | with_reducible rfl | omega
    simp only [Act.put, planVG, List.setIfInBounds_toArray, List.set_cons_zero, List.set_cons_succ, List.getElem?_cons_zero, List.getElem?_cons_succ]
    refine ⟨?_, ?_⟩
    · as_aux_lemma =>
      intro y_ hS_ hO_ hD
      clear hS_ hO_ hD
      refine s_gen (V := .bool true) [.bool true, .bool true, .bool false] (by kernel_rfl) (by kernel_rfl) (by kernel_rfl) ?_
      intro r_ hr_
      have o0_ : r_ (.tmp 46) = .bool true := op_at hr_ 0 (by kernel_rfl) (by kernel_rfl)
      have o1_ : r_ (.tmp 52) = .bool true := op_at hr_ 1 (by kernel_rfl) (by kernel_rfl)
      have o2_ : r_ (.const (.bool false)) = .bool false := op_at hr_ 2 (by kernel_rfl) (by kernel_rfl)
      clear hr_
      go_simp; first | done | with_reducible rfl | omega
    simp only [Act.put, planVG, List.setIfInBounds_toArray, List.set_cons_zero, List.set_cons_succ, List.getElem?_cons_zero, List.getElem?_cons_succ]
    refine ⟨?_, ?_⟩
    · as_aux_lemma =>
      intro y_ hS_ hO_ hD
      clear hS_ hO_ hD
      refine s_gen (V := .bool true) [.bool true] (by kernel_rfl) (by kernel_rfl) (by kernel_rfl) ?_
      intro r_ hr_
      have o0_ : r_ (.tmp 53) = .bool true := op_at hr_ 0 (by kernel_rfl) (by kernel_rfl)
      clear hr_
      go_simp; first | done | with_reducible rfl | omega
    simp only [Act.put, planVG, List.setIfInBounds_toArray, List.set_cons_zero, List.set_cons_succ, List.getElem?_cons_zero, List.getElem?_cons_succ]
    refine ⟨?_, ?_⟩
    · as_aux_lemma =>
      intro y_ hS_ hO_ hD
      have Q := ((hS_ (by rfl)).2.2.2.1).cell
      have q0 := Q 0 _ rfl
      have q1 := Q 1 _ rfl
      clear Q hS_ hO_ hD
      refine s_gen (V := bitsV D) [.pointer (some ⟨w2.heap.size, 0, none⟩)] (by kernel_rfl) (by kernel_rfl) (by kernel_rfl) ?_
      intro r_ hr_
      have o0_ : r_ (.tmp 7) = .pointer (some ⟨w2.heap.size, 0, none⟩) := op_at hr_ 0 (by kernel_rfl) (by kernel_rfl)
      clear hr_
      go_simp; first | done | with_reducible rfl
    simp only [Act.put, planVG, List.setIfInBounds_toArray, List.set_cons_zero, List.set_cons_succ, List.getElem?_cons_zero, List.getElem?_cons_succ]
    refine ⟨?_, ?_⟩
    · as_aux_lemma =>
      intro y_ hS_ hO_ hD
      have hS := hS_ (by rfl)
      have n_ : IsN y_ (u3_4) (A) := hS.2.2.2.2.1
      clear hS hS_ hO_ hD
      exact s_num (by rfl) (by rfl) (by rfl) n_
    simp only [Act.put, planVG, List.setIfInBounds_toArray, List.set_cons_zero, List.set_cons_succ, List.getElem?_cons_zero, List.getElem?_cons_succ]
    refine ⟨?_, ?_⟩
    · as_aux_lemma =>
      intro y_ hS_ hO_ hD
      have hS := hS_ (by rfl)
      have n_ : IsN y_ (u3_5) (B) := hS.2.2.2.2.2.1
      clear hS hS_ hO_ hD
      exact s_num (by rfl) (by rfl) (by rfl) n_
    simp only [Act.put, planVG, List.setIfInBounds_toArray, List.set_cons_zero, List.set_cons_succ, List.getElem?_cons_zero, List.getElem?_cons_succ]
    refine ⟨?_, ?_⟩
    · as_aux_lemma =>
      intro y_ hS_ hO_ hD
      have n_14 : IsN y_ (ρ 14) (A) := hD 14 (by decide) (by rfl)
      have n_15 : IsN y_ (ρ 15) (B) := hD 15 (by decide) (by rfl)
      try clear hS
      clear hS_ hO_ hD
      refine s_gcallN (A := A - B) [.func (.func 31) #[] #[], ρ 14, ρ 15] ?_ ?_ (by kernel_rfl) (by kernel_rfl) (by kernel_rfl) ?_ ?_
      rotate_left 2
      · intro r_ hr_
        have o0_ : r_ (.func 31) = .func (.func 31) #[] #[] := op_at hr_ 0 (by kernel_rfl) (by kernel_rfl)
        have o1_ : r_ (.tmp 56) = ρ 14 := op_at hr_ 1 (by kernel_rfl) (by kernel_rfl)
        have o2_ : r_ (.tmp 57) = ρ 15 := op_at hr_ 2 (by kernel_rfl) (by kernel_rfl)
        clear hr_
        go_simp; first | done | with_reducible rfl | (constructor <;> with_reducible rfl)
      · refine refSub_any _ n_14 n_15 (by omega) (by omega) HLE.out
    simp only [Act.put, planVG, List.setIfInBounds_toArray, List.set_cons_zero, List.set_cons_succ, List.getElem?_cons_zero, List.getElem?_cons_succ]
    refine ⟨?_, ?_⟩
    · as_aux_lemma =>
      intro y_ hS_ hO_ hD
      have n_16 : IsN y_ (ρ 16) (A - B) := hD 16 (by decide) (by rfl)
      try clear hS
      clear hS_ hO_ hD
      refine s_gcall (V := bitsV D) [.func (.func 22) #[] #[], ρ 16] ?_ ?_ (by kernel_rfl) (by kernel_rfl) (by kernel_rfl) ?_ ?_
      rotate_left 2
      · intro r_ hr_
        have o0_ : r_ (.func 22) = .func (.func 22) #[] #[] := op_at hr_ 0 (by kernel_rfl) (by kernel_rfl)
        have o1_ : r_ (.tmp 58) = ρ 16 := op_at hr_ 1 (by kernel_rfl) (by kernel_rfl)
        clear hr_
        go_simp; first | done | with_reducible rfl | (constructor <;> with_reducible rfl)
      · refine Bits_eq HE2.out _ n_16 (by omega)
    simp only [Act.put, planVG, List.setIfInBounds_toArray, List.set_cons_zero, List.set_cons_succ, List.getElem?_cons_zero, List.getElem?_cons_succ]
    refine ⟨?_, ?_⟩
    · as_aux_lemma =>
      intro y_ hS_ hO_ hD
      clear hS_ hO_ hD
      refine s_gen (V := .bool true) [bitsV D, bitsV D] (by kernel_rfl) (by kernel_rfl) (by kernel_rfl) ?_
      intro r_ hr_
      have o0_ : r_ (.tmp 55) = bitsV D := op_at hr_ 0 (by kernel_rfl) (by kernel_rfl)
      have o1_ : r_ (.tmp 59) = bitsV D := op_at hr_ 1 (by kernel_rfl) (by kernel_rfl)
      clear hr_
      go_simp; first | done | with_reducible rfl | omega
    simp only [Act.put, planVG, List.setIfInBounds_toArray, List.set_cons_zero, List.set_cons_succ, List.getElem?_cons_zero, List.getElem?_cons_succ]
    refine ⟨?_, ?_⟩
    · as_aux_lemma =>
      intro y_ hS_ hO_ hD
      clear hS_ hO_ hD
      refine s_gen (V := .bool true) [.bool true, .bool true, .bool false] (by kernel_rfl) (by kernel_rfl) (by kernel_rfl) ?_
      intro r_ hr_
      have o0_ : r_ (.tmp 54) = .bool true := op_at hr_ 0 (by kernel_rfl) (by kernel_rfl)
      have o1_ : r_ (.tmp 60) = .bool true := op_at hr_ 1 (by kernel_rfl) (by kernel_rfl)
      have o2_ : r_ (.const (.bool false)) = .bool false := op_at hr_ 2 (by kernel_rfl) (by kernel_rfl)
      clear hr_
      go_simp; first | done | with_reducible rfl | omega
    simp only [Act.put, planVG, List.setIfInBounds_toArray, List.set_cons_zero, List.set_cons_succ, List.getElem?_cons_zero, List.getElem?_cons_succ]
    refine ⟨?_, ?_⟩
    · as_aux_lemma =>
      intro y_ hS_ hO_ hD
      clear hS_ hO_ hD
      refine s_gen (V := .bool true) [.bool true] (by kernel_rfl) (by kernel_rfl) (by kernel_rfl) ?_
      intro r_ hr_
      have o0_ : r_ (.tmp 61) = .bool true := op_at hr_ 0 (by kernel_rfl) (by kernel_rfl)
      clear hr_
      go_simp; first | done | with_reducible rfl | omega
    simp only [Act.put, planVG, List.setIfInBounds_toArray, List.set_cons_zero, List.set_cons_succ, List.getElem?_cons_zero, List.getElem?_cons_succ]
    refine ⟨?_, ?_⟩
    · as_aux_lemma =>
      intro y_ hS_ hO_ hD
      clear hS_ hO_ hD
      refine s_gen (V := .bool false) [.bool false] (by kernel_rfl) (by kernel_rfl) (by kernel_rfl) ?_
      intro r_ hr_
      have o0_ : r_ (.tmp 8) = .bool false := op_at hr_ 0 (by kernel_rfl) (by kernel_rfl)
      clear hr_
      go_simp; first | done | with_reducible rfl | omega
    simp only [Act.put, planVG, List.setIfInBounds_toArray, List.set_cons_zero, List.set_cons_succ, List.getElem?_cons_zero, List.getElem?_cons_succ]
    refine ⟨?_, ?_⟩
    · as_aux_lemma =>
      intro y_ hS_ hO_ hD
      clear hS_ hO_ hD
      refine s_gen (V := .bool false) [.bool false] (by kernel_rfl) (by kernel_rfl) (by kernel_rfl) ?_
      intro r_ hr_
      have o0_ : r_ (.tmp 13) = .bool false := op_at hr_ 0 (by kernel_rfl) (by kernel_rfl)
      clear hr_
      go_simp; first | done | with_reducible rfl | omega
    simp only [Act.put, planVG, List.setIfInBounds_toArray, List.set_cons_zero, List.set_cons_succ, List.getElem?_cons_zero, List.getElem?_cons_succ]
    refine ⟨?_, ?_⟩
    · as_aux_lemma =>
      intro y_ hS_ hO_ hD
      clear hS_ hO_ hD
      refine s_gen (V := .bool true) [.bool false, .bool false] (by kernel_rfl) (by kernel_rfl) (by kernel_rfl) ?_
      intro r_ hr_
      have o0_ : r_ (.tmp 63) = .bool false := op_at hr_ 0 (by kernel_rfl) (by kernel_rfl)
      have o1_ : r_ (.tmp 64) = .bool false := op_at hr_ 1 (by kernel_rfl) (by kernel_rfl)
      clear hr_
      go_simp; first | done | with_reducible rfl | omega
    simp only [Act.put, planVG, List.setIfInBounds_toArray, List.set_cons_zero, List.set_cons_succ, List.getElem?_cons_zero, List.getElem?_cons_succ]
    refine ⟨?_, ?_⟩
    · as_aux_lemma =>
      intro y_ hS_ hO_ hD
      clear hS_ hO_ hD
      refine s_gen (V := .bool true) [.bool true, .bool true, .bool false] (by kernel_rfl) (by kernel_rfl) (by kernel_rfl) ?_
      intro r_ hr_
      have o0_ : r_ (.tmp 62) = .bool true := op_at hr_ 0 (by kernel_rfl) (by kernel_rfl)
      have o1_ : r_ (.tmp 65) = .bool true := op_at hr_ 1 (by kernel_rfl) (by kernel_rfl)
      have o2_ : r_ (.const (.bool false)) = .bool false := op_at hr_ 2 (by kernel_rfl) (by kernel_rfl)
      clear hr_
      go_simp; first | done | with_reducible rfl | omega
    simp only [Act.put, planVG, List.setIfInBounds_toArray, List.set_cons_zero, List.set_cons_succ, List.getElem?_cons_zero, List.getElem?_cons_succ]
    refine ⟨?_, ?_⟩
    · as_aux_lemma =>
      intro y_ hS_ hO_ hD
      clear hS_ hO_ hD
      refine s_gen (V := .bool true) [.bool true] (by kernel_rfl) (by kernel_rfl) (by kernel_rfl) ?_
      intro r_ hr_
      have o0_ : r_ (.tmp 66) = .bool true := op_at hr_ 0 (by kernel_rfl) (by kernel_rfl)
      clear hr_
      go_simp; first | done | with_reducible rfl | omega
    simp only [Act.put, planVG, List.setIfInBounds_toArray, List.set_cons_zero, List.set_cons_succ, List.getElem?_cons_zero, List.getElem?_cons_succ]
    refine ⟨?_, ?_⟩
    · as_aux_lemma =>
      intro y_ hS_ hO_ hD
      try clear hS
      clear hS_ hO_ hD
      refine s_gcall (V := .bool true) [.func (.func 32) #[] #[]] ?_ ?_ (by kernel_rfl) (by kernel_rfl) (by kernel_rfl) ?_ ?_
      rotate_left 2
      · intro r_ hr_
        have o0_ : r_ (.func 32) = .func (.func 32) #[] #[] := op_at hr_ 0 (by kernel_rfl) (by kernel_rfl)
        clear hr_
        go_simp; first | done | with_reducible rfl | (constructor <;> with_reducible rfl)
      · refine counts01_any _
    simp only [Act.put, planVG, List.setIfInBounds_toArray, List.set_cons_zero, List.set_cons_succ, List.getElem?_cons_zero, List.getElem?_cons_succ]
    refine ⟨?_, ?_⟩
    · as_aux_lemma =>
      intro y_ hS_ hO_ hD
      clear hS_ hO_ hD
      refine s_gen (V := .bool true) [.bool true, .bool true, .bool false] (by kernel_rfl) (by kernel_rfl) (by kernel_rfl) ?_
      intro r_ hr_
      have o0_ : r_ (.tmp 67) = .bool true := op_at hr_ 0 (by kernel_rfl) (by kernel_rfl)
      have o1_ : r_ (.tmp 68) = .bool true := op_at hr_ 1 (by kernel_rfl) (by kernel_rfl)
      have o2_ : r_ (.const (.bool false)) = .bool false := op_at hr_ 2 (by kernel_rfl) (by kernel_rfl)
      clear hr_
      go_simp; first | done | with_reducible rfl | omega
    simp only [Act.put, planVG, List.setIfInBounds_toArray, List.set_cons_zero, List.set_cons_succ, List.getElem?_cons_zero, List.getElem?_cons_succ]
    refine ⟨?_, ?_⟩
    · as_aux_lemma =>
      intro y_ hS_ hO_ hD
      clear hS_ hO_ hD
      refine s_gen (V := .bool true) [.bool true] (by kernel_rfl) (by kernel_rfl) (by kernel_rfl) ?_
      intro r_ hr_
      have o0_ : r_ (.tmp 69) = .bool true := op_at hr_ 0 (by kernel_rfl) (by kernel_rfl)
      clear hr_
      go_simp; first | done | with_reducible rfl | omega
    simp only [Act.put, planVG, List.setIfInBounds_toArray, List.set_cons_zero, List.set_cons_succ, List.getElem?_cons_zero, List.getElem?_cons_succ]
    as_aux_lemma =>
      intro w7 hS hF hD_
      change wpList _ _ _ _ _ _
      replace hS := sg_no (by decide) hS
      obtain ⟨hk, hZ7, X3, X4, N3, N4, N5, N6⟩ := hS
      have M1 : IsN w7 (ρ 1) (A + B) := hF 1 (by decide)
      have M6 : IsN w7 (ρ 6) (A + B) := hF 6 (by decide)
      have M7 : IsN w7 (ρ 7) (Z) := hF 7 (by decide)
      have M14 : IsN w7 (ρ 14) (A) := hF 14 (by decide)
      have M15 : IsN w7 (ρ 15) (B) := hF 15 (by decide)
      have M16 : IsN w7 (ρ 16) (A - B) := hF 16 (by decide)
      clear hF hD_
      generalize ρ 1 = u7_1 at *
      generalize ρ 6 = u7_6 at *
      generalize ρ 7 = u7_7 at *
      generalize ρ 14 = u7_14 at *
      generalize ρ 15 = u7_15 at *
      generalize ρ 16 = u7_16 at *
      clear ρ
      have hz_w7 := hk.size
      have X3l := X3.lt
      have X3f := X3.free
      have X3l1 : w1.heap.size < w7.heap.size + 1 := by omega
      have X3l2 : w1.heap.size < w7.heap.size + 1 + 1 := by omega
      have X3l3 : w1.heap.size < w7.heap.size + 1 + 1 + 1 := by omega
      have X30 := X3.cell 0 _ rfl
      have X31 := X3.cell 1 _ rfl
      have X4l := X4.lt
      have X4f := X4.free
      have X4l1 : w2.heap.size < w7.heap.size + 1 := by omega
      have X4l2 : w2.heap.size < w7.heap.size + 1 + 1 := by omega
      have X4l3 : w2.heap.size < w7.heap.size + 1 + 1 + 1 := by omega
      have X40 := X4.cell 0 _ rfl
      have X41 := X4.cell 1 _ rfl
      clear M1
      clear M6
      clear M7
      clear M14
      clear M15
      clear M16
      go_wp2
      go_ret
      exact ⟨rfl, (by refine Kept.below ?_; repeat (first | with_reducible exact hk | with_reducible exact Kept.refl _ | with_reducible refine Kept.alloc ?_ _ | with_reducible refine Kept.drew ?_ | with_reducible refine Kept.setCell ?_ (by simp only [World.size_alloc, World.size_setCell, World.size_drew]; omega) _))⟩

set_option maxRecDepth 100000 in
set_option maxHeartbeats 8000000 in
theorem WordSums_01 {A B S D : Nat} (hA : W128 A) (hB : W128 B) (hS : W128 S) (hD : W128 D) (eS : add128 A B = S) (eD : sub128 A B = D) (h : B ≤ A) (hc : carry128 A B = true) (w : World) :
    Calls Try.prog 4 #[bitsV A, bitsV B] w fun e w' => e = .returned (.bool true) ∧ Below w.heap.size w w' := by
  have hk := Kept.refl w
  obtain ⟨Z, hZ⟩ : ∃ Z : Nat, 2 ^ 128 = Z := ⟨_, rfl⟩
  have hA2 := hA.lt
  have hB2 := hB.lt
  have HE1 := Lib.hid (show bitsV (A + B) = bitsV S by rw [← eS]; exact bits_mod (by unfold add128; omega))
  have HE2 := Lib.hid (show bitsV (A - B) = bitsV D by rw [← eD]; exact bits_mod (by unfold sub128; omega))
  have HLE := Lib.hid (show B ≤ A by omega)
  have c1 : ¬ cmpN A B < 0 := by rw [cmp_neg]; omega
  have c0 : decide (cmpN A B < 0) = false := decide_eq_false c1
  have c2 : ¬ cmpN (A + B) Z < 0 := by
    rw [cmp_neg]
    have := of_decide_eq_true hc
    omega
  have HC := Lib.hid hc
  have HB := Lib.hid (show ltB A B = false from decide_eq_false (by omega))
  have lenZ : lenN Z ≤ 5 := lenN_le 5 Z (by omega)
  have la := len128 hA
  have lb := len128 hB
  have ls : lenN (A + B) ≤ 5 := lenN_le 5 _ (by omega)
  have ln : lenN A ≤ 5 := lenN_le 5 _ (by omega)
  have lm : lenN (A - B) ≤ 5 := lenN_le 5 _ (by omega)
  have HF := Lib.hid hZ
  have HS := Lib.hid eS; have HD := Lib.hid eD
  clear hZ hA2 hB2 eS eD
  clear h hc
  go_enter Try.func4, Try.ntmps4
  go_wp2_with fail
  (with_reducible refine (calls_to (V := .tuple #[bitsV S, .bool true]) (Add_at (IsBits.of hA) (IsBits.of hB) _) (by rw [HS.out, HC.out])).mono ?_)
  rintro e w1 ⟨rfl, hb⟩
  have X1' : Box w1 (w.heap.size) #[.int .u64 (limb 1 A), .int .u64 (limb 0 A)] := Box.call hb (by repeat (first | with_reducible assumption | with_reducible apply Box.set10 | with_reducible apply Box.set20 | with_reducible apply Box.set21 | with_reducible apply Box.set40 | with_reducible apply Box.set41 | with_reducible apply Box.set42 | with_reducible apply Box.set43 | with_reducible apply Box.set50 | with_reducible apply Box.set51 | with_reducible apply Box.set52 | with_reducible apply Box.set53 | with_reducible apply Box.set54 | with_reducible apply Box.drew | (with_reducible apply Box.newAt; (try simp only [World.size_alloc, World.size_setCell, World.size_drew]); done) | with_reducible apply Box.alloc | (with_reducible apply Box.other; case hne => ((try simp only [World.size_alloc, World.size_setCell, World.size_drew]); omega))))
  have X2' : Box w1 (w.heap.size + 1) #[.int .u64 (limb 1 B), .int .u64 (limb 0 B)] := Box.call hb (by repeat (first | with_reducible assumption | with_reducible apply Box.set10 | with_reducible apply Box.set20 | with_reducible apply Box.set21 | with_reducible apply Box.set40 | with_reducible apply Box.set41 | with_reducible apply Box.set42 | with_reducible apply Box.set43 | with_reducible apply Box.set50 | with_reducible apply Box.set51 | with_reducible apply Box.set52 | with_reducible apply Box.set53 | with_reducible apply Box.set54 | with_reducible apply Box.drew | (with_reducible apply Box.newAt; (try simp only [World.size_alloc, World.size_setCell, World.size_drew]); done) | with_reducible apply Box.alloc | (with_reducible apply Box.other; case hne => ((try simp only [World.size_alloc, World.size_setCell, World.size_drew]); omega))))
  have hk' : Kept w.heap.size w w1 := Kept.step (by repeat (first | with_reducible exact hk | with_reducible exact Kept.refl _ | with_reducible refine Kept.alloc ?_ _ | with_reducible refine Kept.drew ?_ | with_reducible refine Kept.setCell ?_ (by simp only [World.size_alloc, World.size_setCell, World.size_drew]; omega) _)) hb
  clear hk hb
  have X1 := X1'
  clear X1'
  have X2 := X2'
  clear X2'
  have hk := hk'
  clear hk'
  have hz_w1 := hk.size
  have X1l := X1.lt
  have X1f := X1.free
  have X1l1 : w.heap.size < w1.heap.size + 1 := by omega
  have X1l2 : w.heap.size < w1.heap.size + 1 + 1 := by omega
  have X1l3 : w.heap.size < w1.heap.size + 1 + 1 + 1 := by omega
  have X10 := X1.cell 0 _ rfl
  have X11 := X1.cell 1 _ rfl
  have X2l := X2.lt
  have X2f := X2.free
  have X2l1 : w.heap.size + 1 < w1.heap.size + 1 := by omega
  have X2l2 : w.heap.size + 1 < w1.heap.size + 1 + 1 := by omega
  have X2l3 : w.heap.size + 1 < w1.heap.size + 1 + 1 + 1 := by omega
  have X20 := X2.cell 0 _ rfl
  have X21 := X2.cell 1 _ rfl
  go_wp2_with fail
  (with_reducible refine (calls_to (V := .tuple #[bitsV D, .bool false]) (Sub_at (IsBits.of hA) (IsBits.of hB) _) (by rw [HD.out, HB.out])).mono ?_)
  rintro e w2 ⟨rfl, hb⟩
  have X1' : Box w2 (w.heap.size) #[.int .u64 (limb 1 A), .int .u64 (limb 0 A)] := Box.call hb (by repeat (first | with_reducible assumption | with_reducible apply Box.set10 | with_reducible apply Box.set20 | with_reducible apply Box.set21 | with_reducible apply Box.set40 | with_reducible apply Box.set41 | with_reducible apply Box.set42 | with_reducible apply Box.set43 | with_reducible apply Box.set50 | with_reducible apply Box.set51 | with_reducible apply Box.set52 | with_reducible apply Box.set53 | with_reducible apply Box.set54 | with_reducible apply Box.drew | (with_reducible apply Box.newAt; (try simp only [World.size_alloc, World.size_setCell, World.size_drew]); done) | with_reducible apply Box.alloc | (with_reducible apply Box.other; case hne => ((try simp only [World.size_alloc, World.size_setCell, World.size_drew]); omega))))
  have X2' : Box w2 (w.heap.size + 1) #[.int .u64 (limb 1 B), .int .u64 (limb 0 B)] := Box.call hb (by repeat (first | with_reducible assumption | with_reducible apply Box.set10 | with_reducible apply Box.set20 | with_reducible apply Box.set21 | with_reducible apply Box.set40 | with_reducible apply Box.set41 | with_reducible apply Box.set42 | with_reducible apply Box.set43 | with_reducible apply Box.set50 | with_reducible apply Box.set51 | with_reducible apply Box.set52 | with_reducible apply Box.set53 | with_reducible apply Box.set54 | with_reducible apply Box.drew | (with_reducible apply Box.newAt; (try simp only [World.size_alloc, World.size_setCell, World.size_drew]); done) | with_reducible apply Box.alloc | (with_reducible apply Box.other; case hne => ((try simp only [World.size_alloc, World.size_setCell, World.size_drew]); omega))))
  have X3' : Box w2 (w1.heap.size) #[.int .u64 (limb 1 S), .int .u64 (limb 0 S)] := Box.call hb (by repeat (first | with_reducible assumption | with_reducible apply Box.set10 | with_reducible apply Box.set20 | with_reducible apply Box.set21 | with_reducible apply Box.set40 | with_reducible apply Box.set41 | with_reducible apply Box.set42 | with_reducible apply Box.set43 | with_reducible apply Box.set50 | with_reducible apply Box.set51 | with_reducible apply Box.set52 | with_reducible apply Box.set53 | with_reducible apply Box.set54 | with_reducible apply Box.drew | (with_reducible apply Box.newAt; (try simp only [World.size_alloc, World.size_setCell, World.size_drew]); done) | with_reducible apply Box.alloc | (with_reducible apply Box.other; case hne => ((try simp only [World.size_alloc, World.size_setCell, World.size_drew]); omega))))
  have hk' : Kept w.heap.size w w2 := Kept.step (by repeat (first | with_reducible exact hk | with_reducible exact Kept.refl _ | with_reducible refine Kept.alloc ?_ _ | with_reducible refine Kept.drew ?_ | with_reducible refine Kept.setCell ?_ (by simp only [World.size_alloc, World.size_setCell, World.size_drew]; omega) _)) hb
  clear hk hb
  clear X1 X1l1 X1l2 X1l3 X1f X10 X11
  clear X2 X2l1 X2l2 X2l3 X2f X20 X21
  have X1 := X1'
  clear X1'
  have X2 := X2'
  clear X2'
  have X3 := X3'
  clear X3'
  have hk := hk'
  clear hk'
  have hz_w2 := hk.size
  have X1l := X1.lt
  have X1f := X1.free
  have X1l1 : w.heap.size < w2.heap.size + 1 := by omega
  have X1l2 : w.heap.size < w2.heap.size + 1 + 1 := by omega
  have X1l3 : w.heap.size < w2.heap.size + 1 + 1 + 1 := by omega
  have X10 := X1.cell 0 _ rfl
  have X11 := X1.cell 1 _ rfl
  have X2l := X2.lt
  have X2f := X2.free
  have X2l1 : w.heap.size + 1 < w2.heap.size + 1 := by omega
  have X2l2 : w.heap.size + 1 < w2.heap.size + 1 + 1 := by omega
  have X2l3 : w.heap.size + 1 < w2.heap.size + 1 + 1 + 1 := by omega
  have X20 := X2.cell 0 _ rfl
  have X21 := X2.cell 1 _ rfl
  have X3l := X3.lt
  have X3f := X3.free
  have X3l1 : w1.heap.size < w2.heap.size + 1 := by omega
  have X3l2 : w1.heap.size < w2.heap.size + 1 + 1 := by omega
  have X3l3 : w1.heap.size < w2.heap.size + 1 + 1 + 1 := by omega
  have X30 := X3.cell 0 _ rfl
  have X31 := X3.cell 1 _ rfl
  go_wp2
  refine wp_region_g 6 (fun W' => Kept w.heap.size w W' ∧ w2.heap.size + 1 ≤ W'.heap.size ∧ Box W' (w.heap.size) #[.int .u64 (limb 1 A), .int .u64 (limb 0 A)] ∧ Box W' (w.heap.size + 1) #[.int .u64 (limb 1 B), .int .u64 (limb 0 B)] ∧ Box W' (w1.heap.size) #[.int .u64 (limb 1 S), .int .u64 (limb 0 S)] ∧ Box W' (w2.heap.size) #[.int .u64 (limb 1 D), .int .u64 (limb 0 D)]) (fun W' => Kept w.heap.size w W' ∧ w2.heap.size + 1 ≤ W'.heap.size ∧ Box W' (w.heap.size) #[.int .u64 (limb 1 A), .int .u64 (limb 0 A)] ∧ Box W' (w.heap.size + 1) #[.int .u64 (limb 1 B), .int .u64 (limb 0 B)] ∧ Box W' (w1.heap.size) #[.int .u64 (limb 1 S), .int .u64 (limb 0 S)] ∧ Box W' (w2.heap.size) #[.int .u64 (limb 1 D), .int .u64 (limb 0 D)]) 1000 (w2.heap.size + 1) [.known (bitsV A), .num (A), .known (bitsV B), .num (B), .num (A), .num (B)] (by kernel_rfl) (by kernel_rfl) (fun W W' h hb => ⟨h.1.step hb, Nat.le_trans (h.2.1) hb.size, Box.call hb (h.2.2.1), Box.call hb (h.2.2.2.1), Box.call hb (h.2.2.2.2.1), Box.call hb (h.2.2.2.2.2)⟩) (fun W W' h hb => ⟨h.1.step hb, Nat.le_trans (h.2.1) hb.size, Box.call hb (h.2.2.1), Box.call hb (h.2.2.2.1), Box.call hb (h.2.2.2.2.1), Box.call hb (h.2.2.2.2.2)⟩) (no_out (of_decide_eq_true (by kernel_rfl))) (.inl (by kernel_rfl)) (.inl (by kernel_rfl)) (fun _ h => h.2.1) (fun _ h => h.2.1) (⟨(by repeat (first | with_reducible exact hk | with_reducible exact Kept.refl _ | with_reducible refine Kept.alloc ?_ _ | with_reducible refine Kept.drew ?_ | with_reducible refine Kept.setCell ?_ (by simp only [World.size_alloc, World.size_setCell, World.size_drew]; omega) _)), (by (try simp only [World.size_alloc, World.size_setCell, World.size_drew]); omega), (by repeat (first | with_reducible assumption | with_reducible apply Box.set10 | with_reducible apply Box.set20 | with_reducible apply Box.set21 | with_reducible apply Box.set40 | with_reducible apply Box.set41 | with_reducible apply Box.set42 | with_reducible apply Box.set43 | with_reducible apply Box.set50 | with_reducible apply Box.set51 | with_reducible apply Box.set52 | with_reducible apply Box.set53 | with_reducible apply Box.set54 | with_reducible apply Box.drew | (with_reducible apply Box.newAt; (try simp only [World.size_alloc, World.size_setCell, World.size_drew]); done) | with_reducible apply Box.alloc | (with_reducible apply Box.other; case hne => ((try simp only [World.size_alloc, World.size_setCell, World.size_drew]); omega)))), (by repeat (first | with_reducible assumption | with_reducible apply Box.set10 | with_reducible apply Box.set20 | with_reducible apply Box.set21 | with_reducible apply Box.set40 | with_reducible apply Box.set41 | with_reducible apply Box.set42 | with_reducible apply Box.set43 | with_reducible apply Box.set50 | with_reducible apply Box.set51 | with_reducible apply Box.set52 | with_reducible apply Box.set53 | with_reducible apply Box.set54 | with_reducible apply Box.drew | (with_reducible apply Box.newAt; (try simp only [World.size_alloc, World.size_setCell, World.size_drew]); done) | with_reducible apply Box.alloc | (with_reducible apply Box.other; case hne => ((try simp only [World.size_alloc, World.size_setCell, World.size_drew]); omega)))), (by repeat (first | with_reducible assumption | with_reducible apply Box.set10 | with_reducible apply Box.set20 | with_reducible apply Box.set21 | with_reducible apply Box.set40 | with_reducible apply Box.set41 | with_reducible apply Box.set42 | with_reducible apply Box.set43 | with_reducible apply Box.set50 | with_reducible apply Box.set51 | with_reducible apply Box.set52 | with_reducible apply Box.set53 | with_reducible apply Box.set54 | with_reducible apply Box.drew | (with_reducible apply Box.newAt; (try simp only [World.size_alloc, World.size_setCell, World.size_drew]); done) | with_reducible apply Box.alloc | (with_reducible apply Box.other; case hne => ((try simp only [World.size_alloc, World.size_setCell, World.size_drew]); omega)))), (by repeat (first | with_reducible assumption | with_reducible apply Box.set10 | with_reducible apply Box.set20 | with_reducible apply Box.set21 | with_reducible apply Box.set40 | with_reducible apply Box.set41 | with_reducible apply Box.set42 | with_reducible apply Box.set43 | with_reducible apply Box.set50 | with_reducible apply Box.set51 | with_reducible apply Box.set52 | with_reducible apply Box.set53 | with_reducible apply Box.set54 | with_reducible apply Box.drew | (with_reducible apply Box.newAt; (try simp only [World.size_alloc, World.size_setCell, World.size_drew]); done) | with_reducible apply Box.alloc | (with_reducible apply Box.other; case hne => ((try simp only [World.size_alloc, World.size_setCell, World.size_drew]); omega))))⟩) ?_
  clear hk
  clear X1 X1l1 X1l2 X1l3 X1f X10 X11
  clear X2 X2l1 X2l2 X2l3 X2f X20 X21
  clear X3 X3l1 X3l2 X3l3 X3f X30 X31
  intro ρ
  simp only [List.take_succ_cons, List.take_zero, List.drop_succ_cons, List.drop_zero]
  refine ⟨?_, ?_⟩
  · as_aux_lemma =>
    intro y_ hS_ hO_ hD
    have Q := ((hS_ (by rfl)).2.2.1).cell
    have q0 := Q 0 _ rfl
    have q1 := Q 1 _ rfl
    clear Q hS_ hO_ hD
    refine s_gen (V := bitsV A) [.pointer (some ⟨w.heap.size, 0, none⟩)] (by kernel_rfl) (by kernel_rfl) (by kernel_rfl) ?_
    intro r_ hr_
    have o0_ : r_ (.tmp 2) = .pointer (some ⟨w.heap.size, 0, none⟩) := op_at hr_ 0 (by kernel_rfl) (by kernel_rfl)
    clear hr_
    go_simp; first | done | with_reducible rfl
  simp only [Act.put, planVG, List.setIfInBounds_toArray, List.set_cons_zero, List.set_cons_succ, List.getElem?_cons_zero, List.getElem?_cons_succ]
  refine ⟨?_, ?_⟩
  · as_aux_lemma =>
    intro y_ hS_ hO_ hD
    try clear hS
    clear hS_ hO_ hD
    refine s_gcallN (A := A) [.func (.func 16) #[] #[], bitsV A] ?_ ?_ (by kernel_rfl) (by kernel_rfl) (by kernel_rfl) ?_ ?_
    rotate_left 2
    · intro r_ hr_
      have o0_ : r_ (.func 16) = .func (.func 16) #[] #[] := op_at hr_ 0 (by kernel_rfl) (by kernel_rfl)
      have o1_ : r_ (.tmp 26) = bitsV A := op_at hr_ 1 (by kernel_rfl) (by kernel_rfl)
      clear hr_
      go_simp; first | done | with_reducible rfl | (constructor <;> with_reducible rfl)
    · refine Big_any (IsBits.of hA).w _
  simp only [Act.put, planVG, List.setIfInBounds_toArray, List.set_cons_zero, List.set_cons_succ, List.getElem?_cons_zero, List.getElem?_cons_succ]
  refine ⟨?_, ?_⟩
  · as_aux_lemma =>
    intro y_ hS_ hO_ hD
    have Q := ((hS_ (by rfl)).2.2.2.1).cell
    have q0 := Q 0 _ rfl
    have q1 := Q 1 _ rfl
    clear Q hS_ hO_ hD
    refine s_gen (V := bitsV B) [.pointer (some ⟨w.heap.size + 1, 0, none⟩)] (by kernel_rfl) (by kernel_rfl) (by kernel_rfl) ?_
    intro r_ hr_
    have o0_ : r_ (.tmp 3) = .pointer (some ⟨w.heap.size + 1, 0, none⟩) := op_at hr_ 0 (by kernel_rfl) (by kernel_rfl)
    clear hr_
    go_simp; first | done | with_reducible rfl
  simp only [Act.put, planVG, List.setIfInBounds_toArray, List.set_cons_zero, List.set_cons_succ, List.getElem?_cons_zero, List.getElem?_cons_succ]
  refine ⟨?_, ?_⟩
  · as_aux_lemma =>
    intro y_ hS_ hO_ hD
    try clear hS
    clear hS_ hO_ hD
    refine s_gcallN (A := B) [.func (.func 16) #[] #[], bitsV B] ?_ ?_ (by kernel_rfl) (by kernel_rfl) (by kernel_rfl) ?_ ?_
    rotate_left 2
    · intro r_ hr_
      have o0_ : r_ (.func 16) = .func (.func 16) #[] #[] := op_at hr_ 0 (by kernel_rfl) (by kernel_rfl)
      have o1_ : r_ (.tmp 28) = bitsV B := op_at hr_ 1 (by kernel_rfl) (by kernel_rfl)
      clear hr_
      go_simp; first | done | with_reducible rfl | (constructor <;> with_reducible rfl)
    · refine Big_any (IsBits.of hB).w _
  simp only [Act.put, planVG, List.setIfInBounds_toArray, List.set_cons_zero, List.set_cons_succ, List.getElem?_cons_zero, List.getElem?_cons_succ]
  refine ⟨?_, ?_⟩
  · as_aux_lemma =>
    intro y_ hS_ hO_ hD
    have hS := hS_ (by rfl)
    have n_ : IsN y_ (ρ 1) (A) := hD 1 (by decide) (by rfl)
    clear hS hS_ hO_ hD
    exact s_num (by rfl) (by rfl) (by rfl) n_
  simp only [Act.put, planVG, List.setIfInBounds_toArray, List.set_cons_zero, List.set_cons_succ, List.getElem?_cons_zero, List.getElem?_cons_succ]
  refine ⟨?_, ?_⟩
  · as_aux_lemma =>
    intro y_ hS_ hO_ hD
    have hS := hS_ (by rfl)
    have n_ : IsN y_ (ρ 3) (B) := hD 3 (by decide) (by rfl)
    clear hS hS_ hO_ hD
    exact s_num (by rfl) (by rfl) (by rfl) n_
  simp only [Act.put, planVG, List.setIfInBounds_toArray, List.set_cons_zero, List.set_cons_succ, List.getElem?_cons_zero, List.getElem?_cons_succ]
  as_aux_lemma =>
    intro w3 hS hF hD_
    change wpList _ _ _ _ _ _
    replace hS := sg_no (by decide) hS
    obtain ⟨hk, hZ3, X1, X2, X3, X4⟩ := hS
    have M1 : IsN w3 (ρ 1) (A) := hF 1 (by decide)
    have M3 : IsN w3 (ρ 3) (B) := hF 3 (by decide)
    have M4 : IsN w3 (ρ 4) (A) := hF 4 (by decide)
    have M5 : IsN w3 (ρ 5) (B) := hF 5 (by decide)
    clear hF hD_
    generalize ρ 1 = u3_1 at *
    generalize ρ 3 = u3_3 at *
    generalize ρ 4 = u3_4 at *
    generalize ρ 5 = u3_5 at *
    clear ρ
    have hz_w3 := hk.size
    have X1l := X1.lt
    have X1f := X1.free
    have X1l1 : w.heap.size < w3.heap.size + 1 := by omega
    have X1l2 : w.heap.size < w3.heap.size + 1 + 1 := by omega
    have X1l3 : w.heap.size < w3.heap.size + 1 + 1 + 1 := by omega
    have X10 := X1.cell 0 _ rfl
    have X11 := X1.cell 1 _ rfl
    have X2l := X2.lt
    have X2f := X2.free
    have X2l1 : w.heap.size + 1 < w3.heap.size + 1 := by omega
    have X2l2 : w.heap.size + 1 < w3.heap.size + 1 + 1 := by omega
    have X2l3 : w.heap.size + 1 < w3.heap.size + 1 + 1 + 1 := by omega
    have X20 := X2.cell 0 _ rfl
    have X21 := X2.cell 1 _ rfl
    have X3l := X3.lt
    have X3f := X3.free
    have X3l1 : w1.heap.size < w3.heap.size + 1 := by omega
    have X3l2 : w1.heap.size < w3.heap.size + 1 + 1 := by omega
    have X3l3 : w1.heap.size < w3.heap.size + 1 + 1 + 1 := by omega
    have X30 := X3.cell 0 _ rfl
    have X31 := X3.cell 1 _ rfl
    have X4l := X4.lt
    have X4f := X4.free
    have X4l1 : w2.heap.size < w3.heap.size + 1 := by omega
    have X4l2 : w2.heap.size < w3.heap.size + 1 + 1 := by omega
    have X4l3 : w2.heap.size < w3.heap.size + 1 + 1 + 1 := by omega
    have X40 := X4.cell 0 _ rfl
    have X41 := X4.cell 1 _ rfl
    clear M1
    clear M3
    have N3 := M4
    clear M4
    have N4 := M5
    clear M5
    go_wp2_with fail
    (with_reducible refine (refAdd_any _ (IsN.kept N3 (by repeat (first | with_reducible exact Kept.refl _ | with_reducible refine Kept.alloc ?_ _ | with_reducible refine Kept.drew ?_ | with_reducible refine Kept.setCell ?_ (by simp only [World.size_alloc, World.size_setCell, World.size_drew]; omega) _))) (IsN.kept N4 (by repeat (first | with_reducible exact Kept.refl _ | with_reducible refine Kept.alloc ?_ _ | with_reducible refine Kept.drew ?_ | with_reducible refine Kept.setCell ?_ (by simp only [World.size_alloc, World.size_setCell, World.size_drew]; omega) _))) (by omega) (by omega)).mono ?_)
    rintro e w4 ⟨vN5, rfl, N5_, hb⟩
    have X3' : Box w4 (w1.heap.size) #[.int .u64 (limb 1 S), .int .u64 (limb 0 S)] := Box.call hb (by repeat (first | with_reducible assumption | with_reducible apply Box.set10 | with_reducible apply Box.set20 | with_reducible apply Box.set21 | with_reducible apply Box.set40 | with_reducible apply Box.set41 | with_reducible apply Box.set42 | with_reducible apply Box.set43 | with_reducible apply Box.set50 | with_reducible apply Box.set51 | with_reducible apply Box.set52 | with_reducible apply Box.set53 | with_reducible apply Box.set54 | with_reducible apply Box.drew | (with_reducible apply Box.newAt; (try simp only [World.size_alloc, World.size_setCell, World.size_drew]); done) | with_reducible apply Box.alloc | (with_reducible apply Box.other; case hne => ((try simp only [World.size_alloc, World.size_setCell, World.size_drew]); omega))))
    have X4' : Box w4 (w2.heap.size) #[.int .u64 (limb 1 D), .int .u64 (limb 0 D)] := Box.call hb (by repeat (first | with_reducible assumption | with_reducible apply Box.set10 | with_reducible apply Box.set20 | with_reducible apply Box.set21 | with_reducible apply Box.set40 | with_reducible apply Box.set41 | with_reducible apply Box.set42 | with_reducible apply Box.set43 | with_reducible apply Box.set50 | with_reducible apply Box.set51 | with_reducible apply Box.set52 | with_reducible apply Box.set53 | with_reducible apply Box.set54 | with_reducible apply Box.drew | (with_reducible apply Box.newAt; (try simp only [World.size_alloc, World.size_setCell, World.size_drew]); done) | with_reducible apply Box.alloc | (with_reducible apply Box.other; case hne => ((try simp only [World.size_alloc, World.size_setCell, World.size_drew]); omega))))
    have N3' : IsN w4 u3_4 (A) := (IsN.kept N3 (by repeat (first | with_reducible exact Kept.refl _ | with_reducible refine Kept.alloc ?_ _ | with_reducible refine Kept.drew ?_ | with_reducible refine Kept.setCell ?_ (by simp only [World.size_alloc, World.size_setCell, World.size_drew]; omega) _))).call hb
    have N4' : IsN w4 u3_5 (B) := (IsN.kept N4 (by repeat (first | with_reducible exact Kept.refl _ | with_reducible refine Kept.alloc ?_ _ | with_reducible refine Kept.drew ?_ | with_reducible refine Kept.setCell ?_ (by simp only [World.size_alloc, World.size_setCell, World.size_drew]; omega) _))).call hb
    have hk' : Kept w.heap.size w w4 := Kept.step (by repeat (first | with_reducible exact hk | with_reducible exact Kept.refl _ | with_reducible refine Kept.alloc ?_ _ | with_reducible refine Kept.drew ?_ | with_reducible refine Kept.setCell ?_ (by simp only [World.size_alloc, World.size_setCell, World.size_drew]; omega) _)) hb
    clear hk hb
    clear X1 X1l1 X1l2 X1l3 X1f X10 X11
    clear X2 X2l1 X2l2 X2l3 X2f X20 X21
    clear X3 X3l1 X3l2 X3l3 X3f X30 X31
    clear X4 X4l1 X4l2 X4l3 X4f X40 X41
    have X3 := X3'
    clear X3'
    have X4 := X4'
    clear X4'
    clear N3
    have N3 := N3'
    clear N3'
    clear N4
    have N4 := N4'
    clear N4'
    have hk := hk'
    clear hk'
    have hz_w4 := hk.size
    have X3l := X3.lt
    have X3f := X3.free
    have X3l1 : w1.heap.size < w4.heap.size + 1 := by omega
    have X3l2 : w1.heap.size < w4.heap.size + 1 + 1 := by omega
    have X3l3 : w1.heap.size < w4.heap.size + 1 + 1 + 1 := by omega
    have X30 := X3.cell 0 _ rfl
    have X31 := X3.cell 1 _ rfl
    have X4l := X4.lt
    have X4f := X4.free
    have X4l1 : w2.heap.size < w4.heap.size + 1 := by omega
    have X4l2 : w2.heap.size < w4.heap.size + 1 + 1 := by omega
    have X4l3 : w2.heap.size < w4.heap.size + 1 + 1 + 1 := by omega
    have X40 := X4.cell 0 _ rfl
    have X41 := X4.cell 1 _ rfl
    have N5 : IsN w4 vN5 (A + B) := N5_
    clear N5_
    go_wp2_with fail
    (with_reducible refine (refFullF HF.out (by omega) (by omega) _).mono ?_)
    rintro e w5 ⟨vN6, rfl, N6_, hb⟩
    have X3' : Box w5 (w1.heap.size) #[.int .u64 (limb 1 S), .int .u64 (limb 0 S)] := Box.call hb (by repeat (first | with_reducible assumption | with_reducible apply Box.set10 | with_reducible apply Box.set20 | with_reducible apply Box.set21 | with_reducible apply Box.set40 | with_reducible apply Box.set41 | with_reducible apply Box.set42 | with_reducible apply Box.set43 | with_reducible apply Box.set50 | with_reducible apply Box.set51 | with_reducible apply Box.set52 | with_reducible apply Box.set53 | with_reducible apply Box.set54 | with_reducible apply Box.drew | (with_reducible apply Box.newAt; (try simp only [World.size_alloc, World.size_setCell, World.size_drew]); done) | with_reducible apply Box.alloc | (with_reducible apply Box.other; case hne => ((try simp only [World.size_alloc, World.size_setCell, World.size_drew]); omega))))
    have X4' : Box w5 (w2.heap.size) #[.int .u64 (limb 1 D), .int .u64 (limb 0 D)] := Box.call hb (by repeat (first | with_reducible assumption | with_reducible apply Box.set10 | with_reducible apply Box.set20 | with_reducible apply Box.set21 | with_reducible apply Box.set40 | with_reducible apply Box.set41 | with_reducible apply Box.set42 | with_reducible apply Box.set43 | with_reducible apply Box.set50 | with_reducible apply Box.set51 | with_reducible apply Box.set52 | with_reducible apply Box.set53 | with_reducible apply Box.set54 | with_reducible apply Box.drew | (with_reducible apply Box.newAt; (try simp only [World.size_alloc, World.size_setCell, World.size_drew]); done) | with_reducible apply Box.alloc | (with_reducible apply Box.other; case hne => ((try simp only [World.size_alloc, World.size_setCell, World.size_drew]); omega))))
    have N3' : IsN w5 u3_4 (A) := (IsN.kept N3 (by repeat (first | with_reducible exact Kept.refl _ | with_reducible refine Kept.alloc ?_ _ | with_reducible refine Kept.drew ?_ | with_reducible refine Kept.setCell ?_ (by simp only [World.size_alloc, World.size_setCell, World.size_drew]; omega) _))).call hb
    have N4' : IsN w5 u3_5 (B) := (IsN.kept N4 (by repeat (first | with_reducible exact Kept.refl _ | with_reducible refine Kept.alloc ?_ _ | with_reducible refine Kept.drew ?_ | with_reducible refine Kept.setCell ?_ (by simp only [World.size_alloc, World.size_setCell, World.size_drew]; omega) _))).call hb
    have N5' : IsN w5 vN5 (A + B) := (IsN.kept N5 (by repeat (first | with_reducible exact Kept.refl _ | with_reducible refine Kept.alloc ?_ _ | with_reducible refine Kept.drew ?_ | with_reducible refine Kept.setCell ?_ (by simp only [World.size_alloc, World.size_setCell, World.size_drew]; omega) _))).call hb
    have hk' : Kept w.heap.size w w5 := Kept.step (by repeat (first | with_reducible exact hk | with_reducible exact Kept.refl _ | with_reducible refine Kept.alloc ?_ _ | with_reducible refine Kept.drew ?_ | with_reducible refine Kept.setCell ?_ (by simp only [World.size_alloc, World.size_setCell, World.size_drew]; omega) _)) hb
    clear hk hb
    clear X3 X3l1 X3l2 X3l3 X3f X30 X31
    clear X4 X4l1 X4l2 X4l3 X4f X40 X41
    have X3 := X3'
    clear X3'
    have X4 := X4'
    clear X4'
    clear N3
    have N3 := N3'
    clear N3'
    clear N4
    have N4 := N4'
    clear N4'
    clear N5
    have N5 := N5'
    clear N5'
    have hk := hk'
    clear hk'
    have hz_w5 := hk.size
    have X3l := X3.lt
    have X3f := X3.free
    have X3l1 : w1.heap.size < w5.heap.size + 1 := by omega
    have X3l2 : w1.heap.size < w5.heap.size + 1 + 1 := by omega
    have X3l3 : w1.heap.size < w5.heap.size + 1 + 1 + 1 := by omega
    have X30 := X3.cell 0 _ rfl
    have X31 := X3.cell 1 _ rfl
    have X4l := X4.lt
    have X4f := X4.free
    have X4l1 : w2.heap.size < w5.heap.size + 1 := by omega
    have X4l2 : w2.heap.size < w5.heap.size + 1 + 1 := by omega
    have X4l3 : w2.heap.size < w5.heap.size + 1 + 1 + 1 := by omega
    have X40 := X4.cell 0 _ rfl
    have X41 := X4.cell 1 _ rfl
    have N6 : IsN w5 vN6 (Z) := N6_
    clear N6_
    go_wp2_with fail
    (with_reducible refine (refCmp_any _ (IsN.kept N3 (by repeat (first | with_reducible exact Kept.refl _ | with_reducible refine Kept.alloc ?_ _ | with_reducible refine Kept.drew ?_ | with_reducible refine Kept.setCell ?_ (by simp only [World.size_alloc, World.size_setCell, World.size_drew]; omega) _))) (IsN.kept N4 (by repeat (first | with_reducible exact Kept.refl _ | with_reducible refine Kept.alloc ?_ _ | with_reducible refine Kept.drew ?_ | with_reducible refine Kept.setCell ?_ (by simp only [World.size_alloc, World.size_setCell, World.size_drew]; omega) _))) (by omega) (by omega)).mono ?_)
    rintro e w6 ⟨rfl, hb⟩
    have X3' : Box w6 (w1.heap.size) #[.int .u64 (limb 1 S), .int .u64 (limb 0 S)] := Box.call hb (by repeat (first | with_reducible assumption | with_reducible apply Box.set10 | with_reducible apply Box.set20 | with_reducible apply Box.set21 | with_reducible apply Box.set40 | with_reducible apply Box.set41 | with_reducible apply Box.set42 | with_reducible apply Box.set43 | with_reducible apply Box.set50 | with_reducible apply Box.set51 | with_reducible apply Box.set52 | with_reducible apply Box.set53 | with_reducible apply Box.set54 | with_reducible apply Box.drew | (with_reducible apply Box.newAt; (try simp only [World.size_alloc, World.size_setCell, World.size_drew]); done) | with_reducible apply Box.alloc | (with_reducible apply Box.other; case hne => ((try simp only [World.size_alloc, World.size_setCell, World.size_drew]); omega))))
    have X4' : Box w6 (w2.heap.size) #[.int .u64 (limb 1 D), .int .u64 (limb 0 D)] := Box.call hb (by repeat (first | with_reducible assumption | with_reducible apply Box.set10 | with_reducible apply Box.set20 | with_reducible apply Box.set21 | with_reducible apply Box.set40 | with_reducible apply Box.set41 | with_reducible apply Box.set42 | with_reducible apply Box.set43 | with_reducible apply Box.set50 | with_reducible apply Box.set51 | with_reducible apply Box.set52 | with_reducible apply Box.set53 | with_reducible apply Box.set54 | with_reducible apply Box.drew | (with_reducible apply Box.newAt; (try simp only [World.size_alloc, World.size_setCell, World.size_drew]); done) | with_reducible apply Box.alloc | (with_reducible apply Box.other; case hne => ((try simp only [World.size_alloc, World.size_setCell, World.size_drew]); omega))))
    have N3' : IsN w6 u3_4 (A) := (IsN.kept N3 (by repeat (first | with_reducible exact Kept.refl _ | with_reducible refine Kept.alloc ?_ _ | with_reducible refine Kept.drew ?_ | with_reducible refine Kept.setCell ?_ (by simp only [World.size_alloc, World.size_setCell, World.size_drew]; omega) _))).call hb
    have N4' : IsN w6 u3_5 (B) := (IsN.kept N4 (by repeat (first | with_reducible exact Kept.refl _ | with_reducible refine Kept.alloc ?_ _ | with_reducible refine Kept.drew ?_ | with_reducible refine Kept.setCell ?_ (by simp only [World.size_alloc, World.size_setCell, World.size_drew]; omega) _))).call hb
    have N5' : IsN w6 vN5 (A + B) := (IsN.kept N5 (by repeat (first | with_reducible exact Kept.refl _ | with_reducible refine Kept.alloc ?_ _ | with_reducible refine Kept.drew ?_ | with_reducible refine Kept.setCell ?_ (by simp only [World.size_alloc, World.size_setCell, World.size_drew]; omega) _))).call hb
    have N6' : IsN w6 vN6 (Z) := (IsN.kept N6 (by repeat (first | with_reducible exact Kept.refl _ | with_reducible refine Kept.alloc ?_ _ | with_reducible refine Kept.drew ?_ | with_reducible refine Kept.setCell ?_ (by simp only [World.size_alloc, World.size_setCell, World.size_drew]; omega) _))).call hb
    have hk' : Kept w.heap.size w w6 := Kept.step (by repeat (first | with_reducible exact hk | with_reducible exact Kept.refl _ | with_reducible refine Kept.alloc ?_ _ | with_reducible refine Kept.drew ?_ | with_reducible refine Kept.setCell ?_ (by simp only [World.size_alloc, World.size_setCell, World.size_drew]; omega) _)) hb
    clear hk hb
    clear X3 X3l1 X3l2 X3l3 X3f X30 X31
    clear X4 X4l1 X4l2 X4l3 X4f X40 X41
    have X3 := X3'
    clear X3'
    have X4 := X4'
    clear X4'
    clear N3
    have N3 := N3'
    clear N3'
    clear N4
    have N4 := N4'
    clear N4'
    clear N5
    have N5 := N5'
    clear N5'
    clear N6
    have N6 := N6'
    clear N6'
    have hk := hk'
    clear hk'
    have hz_w6 := hk.size
    have X3l := X3.lt
    have X3f := X3.free
    have X3l1 : w1.heap.size < w6.heap.size + 1 := by omega
    have X3l2 : w1.heap.size < w6.heap.size + 1 + 1 := by omega
    have X3l3 : w1.heap.size < w6.heap.size + 1 + 1 + 1 := by omega
    have X30 := X3.cell 0 _ rfl
    have X31 := X3.cell 1 _ rfl
    have X4l := X4.lt
    have X4f := X4.free
    have X4l1 : w2.heap.size < w6.heap.size + 1 := by omega
    have X4l2 : w2.heap.size < w6.heap.size + 1 + 1 := by omega
    have X4l3 : w2.heap.size < w6.heap.size + 1 + 1 + 1 := by omega
    have X40 := X4.cell 0 _ rfl
    have X41 := X4.cell 1 _ rfl
    go_wp2
    refine wp_region_g 29 (fun W' => Kept w.heap.size w W' ∧ w6.heap.size ≤ W'.heap.size ∧ Box W' (w1.heap.size) #[.int .u64 (limb 1 S), .int .u64 (limb 0 S)] ∧ Box W' (w2.heap.size) #[.int .u64 (limb 1 D), .int .u64 (limb 0 D)] ∧ IsN W' u3_4 (A) ∧ IsN W' u3_5 (B) ∧ IsN W' vN5 (A + B) ∧ IsN W' vN6 (Z)) (fun W' => Kept w.heap.size w W' ∧ w6.heap.size ≤ W'.heap.size ∧ Box W' (w1.heap.size) #[.int .u64 (limb 1 S), .int .u64 (limb 0 S)] ∧ Box W' (w2.heap.size) #[.int .u64 (limb 1 D), .int .u64 (limb 0 D)] ∧ IsN W' u3_4 (A) ∧ IsN W' u3_5 (B) ∧ IsN W' vN5 (A + B) ∧ IsN W' vN6 (Z)) 1000 (w6.heap.size) [.known (bitsV S), .num (A + B), .known (bitsV S), .known (.bool true), .known (.bool true), .known (.bool true), .num (A + B), .num (Z), .known (.int .i64 (cmpN (A + B) Z)), .known (.bool true), .known (.bool true), .known (.bool true), .known (.bool true), .known (bitsV D), .num (A), .num (B), .num (A - B), .known (bitsV D), .known (.bool true), .known (.bool true), .known (.bool true), .known (.bool false), .known (.bool false), .known (.bool true), .known (.bool true), .known (.bool true), .known (.bool true), .known (.bool true), .known (.bool true)] (by kernel_rfl) (by kernel_rfl) (fun W W' h hb => ⟨h.1.step hb, Nat.le_trans (h.2.1) hb.size, Box.call hb (h.2.2.1), Box.call hb (h.2.2.2.1), IsN.call (h.2.2.2.2.1) hb, IsN.call (h.2.2.2.2.2.1) hb, IsN.call (h.2.2.2.2.2.2.1) hb, IsN.call (h.2.2.2.2.2.2.2) hb⟩) (fun W W' h hb => ⟨h.1.step hb, Nat.le_trans (h.2.1) hb.size, Box.call hb (h.2.2.1), Box.call hb (h.2.2.2.1), IsN.call (h.2.2.2.2.1) hb, IsN.call (h.2.2.2.2.2.1) hb, IsN.call (h.2.2.2.2.2.2.1) hb, IsN.call (h.2.2.2.2.2.2.2) hb⟩) (no_out (of_decide_eq_true (by kernel_rfl))) (.inl (by kernel_rfl)) (.inl (by kernel_rfl)) (fun _ h => h.2.1) (fun _ h => h.2.1) (⟨(by repeat (first | with_reducible exact hk | with_reducible exact Kept.refl _ | with_reducible refine Kept.alloc ?_ _ | with_reducible refine Kept.drew ?_ | with_reducible refine Kept.setCell ?_ (by simp only [World.size_alloc, World.size_setCell, World.size_drew]; omega) _)), (by (try simp only [World.size_alloc, World.size_setCell, World.size_drew]); omega), (by repeat (first | with_reducible assumption | with_reducible apply Box.set10 | with_reducible apply Box.set20 | with_reducible apply Box.set21 | with_reducible apply Box.set40 | with_reducible apply Box.set41 | with_reducible apply Box.set42 | with_reducible apply Box.set43 | with_reducible apply Box.set50 | with_reducible apply Box.set51 | with_reducible apply Box.set52 | with_reducible apply Box.set53 | with_reducible apply Box.set54 | with_reducible apply Box.drew | (with_reducible apply Box.newAt; (try simp only [World.size_alloc, World.size_setCell, World.size_drew]); done) | with_reducible apply Box.alloc | (with_reducible apply Box.other; case hne => ((try simp only [World.size_alloc, World.size_setCell, World.size_drew]); omega)))), (by repeat (first | with_reducible assumption | with_reducible apply Box.set10 | with_reducible apply Box.set20 | with_reducible apply Box.set21 | with_reducible apply Box.set40 | with_reducible apply Box.set41 | with_reducible apply Box.set42 | with_reducible apply Box.set43 | with_reducible apply Box.set50 | with_reducible apply Box.set51 | with_reducible apply Box.set52 | with_reducible apply Box.set53 | with_reducible apply Box.set54 | with_reducible apply Box.drew | (with_reducible apply Box.newAt; (try simp only [World.size_alloc, World.size_setCell, World.size_drew]); done) | with_reducible apply Box.alloc | (with_reducible apply Box.other; case hne => ((try simp only [World.size_alloc, World.size_setCell, World.size_drew]); omega)))), (IsN.drew (IsN.kept N3 (by repeat (first | with_reducible exact Kept.refl _ | with_reducible refine Kept.alloc ?_ _ | with_reducible refine Kept.drew ?_ | with_reducible refine Kept.setCell ?_ (by simp only [World.size_alloc, World.size_setCell, World.size_drew]; omega) _)))), (IsN.drew (IsN.kept N4 (by repeat (first | with_reducible exact Kept.refl _ | with_reducible refine Kept.alloc ?_ _ | with_reducible refine Kept.drew ?_ | with_reducible refine Kept.setCell ?_ (by simp only [World.size_alloc, World.size_setCell, World.size_drew]; omega) _)))), (IsN.drew (IsN.kept N5 (by repeat (first | with_reducible exact Kept.refl _ | with_reducible refine Kept.alloc ?_ _ | with_reducible refine Kept.drew ?_ | with_reducible refine Kept.setCell ?_ (by simp only [World.size_alloc, World.size_setCell, World.size_drew]; omega) _)))), (IsN.drew (IsN.kept N6 (by repeat (first | with_reducible exact Kept.refl _ | with_reducible refine Kept.alloc ?_ _ | with_reducible refine Kept.drew ?_ | with_reducible refine Kept.setCell ?_ (by simp only [World.size_alloc, World.size_setCell, World.size_drew]; omega) _))))⟩) ?_
    clear hk
    clear X3 X3l1 X3l2 X3l3 X3f X30 X31
    clear X4 X4l1 X4l2 X4l3 X4f X40 X41
    clear N3
    clear N4
    clear N5
    clear N6
    intro ρ
    simp only [List.take_succ_cons, List.take_zero, List.drop_succ_cons, List.drop_zero]
    refine ⟨?_, ?_⟩
    · as_aux_lemma =>
      intro y_ hS_ hO_ hD
      have Q := ((hS_ (by rfl)).2.2.1).cell
      have q0 := Q 0 _ rfl
      have q1 := Q 1 _ rfl
      clear Q hS_ hO_ hD
      refine s_gen (V := bitsV S) [.pointer (some ⟨w1.heap.size, 0, none⟩)] (by kernel_rfl) (by kernel_rfl) (by kernel_rfl) ?_
      intro r_ hr_
      have o0_ : r_ (.tmp 5) = .pointer (some ⟨w1.heap.size, 0, none⟩) := op_at hr_ 0 (by kernel_rfl) (by kernel_rfl)
      clear hr_
      go_simp; first | done | with_reducible rfl
    simp only [Act.put, planVG, List.setIfInBounds_toArray, List.set_cons_zero, List.set_cons_succ, List.getElem?_cons_zero, List.getElem?_cons_succ]
    refine ⟨?_, ?_⟩
    · as_aux_lemma =>
      intro y_ hS_ hO_ hD
      have hS := hS_ (by rfl)
      have n_ : IsN y_ (vN5) (A + B) := hS.2.2.2.2.2.2.1
      clear hS hS_ hO_ hD
      exact s_num (by rfl) (by rfl) (by rfl) n_
    simp only [Act.put, planVG, List.setIfInBounds_toArray, List.set_cons_zero, List.set_cons_succ, List.getElem?_cons_zero, List.getElem?_cons_succ]
    refine ⟨?_, ?_⟩
    · as_aux_lemma =>
      intro y_ hS_ hO_ hD
      have n_1 : IsN y_ (ρ 1) (A + B) := hD 1 (by decide) (by rfl)
      try clear hS
      clear hS_ hO_ hD
      refine s_gcall (V := bitsV S) [.func (.func 22) #[] #[], ρ 1] ?_ ?_ (by kernel_rfl) (by kernel_rfl) (by kernel_rfl) ?_ ?_
      rotate_left 2
      · intro r_ hr_
        have o0_ : r_ (.func 22) = .func (.func 22) #[] #[] := op_at hr_ 0 (by kernel_rfl) (by kernel_rfl)
        have o1_ : r_ (.tmp 43) = ρ 1 := op_at hr_ 1 (by kernel_rfl) (by kernel_rfl)
        clear hr_
        go_simp; first | done | with_reducible rfl | (constructor <;> with_reducible rfl)
      · refine Bits_eq HE1.out _ n_1 (by omega)
    simp only [Act.put, planVG, List.setIfInBounds_toArray, List.set_cons_zero, List.set_cons_succ, List.getElem?_cons_zero, List.getElem?_cons_succ]
    refine ⟨?_, ?_⟩
    · as_aux_lemma =>
      intro y_ hS_ hO_ hD
      clear hS_ hO_ hD
      refine s_gen (V := .bool true) [bitsV S, bitsV S] (by kernel_rfl) (by kernel_rfl) (by kernel_rfl) ?_
      intro r_ hr_
      have o0_ : r_ (.tmp 42) = bitsV S := op_at hr_ 0 (by kernel_rfl) (by kernel_rfl)
      have o1_ : r_ (.tmp 44) = bitsV S := op_at hr_ 1 (by kernel_rfl) (by kernel_rfl)
      clear hr_
      go_simp; first | done | with_reducible rfl | omega
    simp only [Act.put, planVG, List.setIfInBounds_toArray, List.set_cons_zero, List.set_cons_succ, List.getElem?_cons_zero, List.getElem?_cons_succ]
    refine ⟨?_, ?_⟩
    · as_aux_lemma =>
      intro y_ hS_ hO_ hD
      clear hS_ hO_ hD
      refine s_gen (V := .bool true) [.bool true] (by kernel_rfl) (by kernel_rfl) (by kernel_rfl) ?_
      intro r_ hr_
      have o0_ : r_ (.tmp 45) = .bool true := op_at hr_ 0 (by kernel_rfl) (by kernel_rfl)
      clear hr_
      go_simp; first | done | with_reducible rfl | omega
    simp only [Act.put, planVG, List.setIfInBounds_toArray, List.set_cons_zero, List.set_cons_succ, List.getElem?_cons_zero, List.getElem?_cons_succ]
    refine ⟨?_, ?_⟩
    · as_aux_lemma =>
      intro y_ hS_ hO_ hD
      clear hS_ hO_ hD
      refine s_gen (V := .bool true) [.bool true] (by kernel_rfl) (by kernel_rfl) (by kernel_rfl) ?_
      intro r_ hr_
      have o0_ : r_ (.tmp 6) = .bool true := op_at hr_ 0 (by kernel_rfl) (by kernel_rfl)
      clear hr_
      go_simp; first | done | with_reducible rfl | omega
    simp only [Act.put, planVG, List.setIfInBounds_toArray, List.set_cons_zero, List.set_cons_succ, List.getElem?_cons_zero, List.getElem?_cons_succ]
    refine ⟨?_, ?_⟩
    · as_aux_lemma =>
      intro y_ hS_ hO_ hD
      have hS := hS_ (by rfl)
      have n_ : IsN y_ (vN5) (A + B) := hS.2.2.2.2.2.2.1
      clear hS hS_ hO_ hD
      exact s_num (by rfl) (by rfl) (by rfl) n_
    simp only [Act.put, planVG, List.setIfInBounds_toArray, List.set_cons_zero, List.set_cons_succ, List.getElem?_cons_zero, List.getElem?_cons_succ]
    refine ⟨?_, ?_⟩
    · as_aux_lemma =>
      intro y_ hS_ hO_ hD
      have hS := hS_ (by rfl)
      have n_ : IsN y_ (vN6) (Z) := hS.2.2.2.2.2.2.2
      clear hS hS_ hO_ hD
      exact s_num (by rfl) (by rfl) (by rfl) n_
    simp only [Act.put, planVG, List.setIfInBounds_toArray, List.set_cons_zero, List.set_cons_succ, List.getElem?_cons_zero, List.getElem?_cons_succ]
    refine ⟨?_, ?_⟩
    · as_aux_lemma =>
      intro y_ hS_ hO_ hD
      have n_6 : IsN y_ (ρ 6) (A + B) := hD 6 (by decide) (by rfl)
      have n_7 : IsN y_ (ρ 7) (Z) := hD 7 (by decide) (by rfl)
      try clear hS
      clear hS_ hO_ hD
      refine s_gcall (V := .int .i64 (cmpN (A + B) Z)) [.func (.func 30) #[] #[], ρ 6, ρ 7] ?_ ?_ (by kernel_rfl) (by kernel_rfl) (by kernel_rfl) ?_ ?_
      rotate_left 2
      · intro r_ hr_
        have o0_ : r_ (.func 30) = .func (.func 30) #[] #[] := op_at hr_ 0 (by kernel_rfl) (by kernel_rfl)
        have o1_ : r_ (.tmp 48) = ρ 6 := op_at hr_ 1 (by kernel_rfl) (by kernel_rfl)
        have o2_ : r_ (.tmp 49) = ρ 7 := op_at hr_ 2 (by kernel_rfl) (by kernel_rfl)
        clear hr_
        go_simp; first | done | with_reducible rfl | (constructor <;> with_reducible rfl)
      · refine refCmp_any _ n_6 n_7 (by omega) (by omega)
    simp only [Act.put, planVG, List.setIfInBounds_toArray, List.set_cons_zero, List.set_cons_succ, List.getElem?_cons_zero, List.getElem?_cons_succ]
    refine ⟨?_, ?_⟩
    · as_aux_lemma =>
      intro y_ hS_ hO_ hD
      clear hS_ hO_ hD
      refine s_gen (V := .bool true) [.int .i64 (cmpN (A + B) Z), .int .i64 0] (by kernel_rfl) (by kernel_rfl) (by kernel_rfl) ?_
      intro r_ hr_
      have o0_ : r_ (.tmp 50) = .int .i64 (cmpN (A + B) Z) := op_at hr_ 0 (by kernel_rfl) (by kernel_rfl)
      have o1_ : r_ (.const (.int .i64 0)) = .int .i64 0 := op_at hr_ 1 (by kernel_rfl) (by kernel_rfl)
      clear hr_
      go_simp; first | done | with_reducible rfl | omega
    simp only [Act.put, planVG, List.setIfInBounds_toArray, List.set_cons_zero, List.set_cons_succ, List.getElem?_cons_zero, List.getElem?_cons_succ]
    refine ⟨?_, ?_⟩
    · as_aux_lemma =>
      intro y_ hS_ hO_ hD
      clear hS_ hO_ hD
      refine s_gen (V := .bool true) [.bool true, .bool true] (by kernel_rfl) (by kernel_rfl) (by kernel_rfl) ?_
      intro r_ hr_
      have o0_ : r_ (.tmp 47) = .bool true := op_at hr_ 0 (by kernel_rfl) (by kernel_rfl)
      have o1_ : r_ (.tmp 51) = .bool true := op_at hr_ 1 (by kernel_rfl) (by kernel_rfl)
      clear hr_
      go_simp; first | done | with_reducible rfl | omega
    simp only [Act.put, planVG, List.setIfInBounds_toArray, List.set_cons_zero, List.set_cons_succ, List.getElem?_cons_zero, List.getElem?_cons_succ]
    refine ⟨?_, ?_⟩
    · as_aux_lemma =>
      intro y_ hS_ hO_ hD
      clear hS_ hO_ hD
      refine s_gen (V := .bool true) [.bool true, .bool true, .bool false] (by kernel_rfl) (by kernel_rfl) (by kernel_rfl) ?_
      intro r_ hr_
      have o0_ : r_ (.tmp 46) = .bool true := op_at hr_ 0 (by kernel_rfl) (by kernel_rfl)
      have o1_ : r_ (.tmp 52) = .bool true := op_at hr_ 1 (by kernel_rfl) (by kernel_rfl)
      have o2_ : r_ (.const (.bool false)) = .bool false := op_at hr_ 2 (by kernel_rfl) (by kernel_rfl)
      clear hr_
      go_simp; first | done | with_reducible rfl | omega
    simp only [Act.put, planVG, List.setIfInBounds_toArray, List.set_cons_zero, List.set_cons_succ, List.getElem?_cons_zero, List.getElem?_cons_succ]
    refine ⟨?_, ?_⟩
    · as_aux_lemma =>
      intro y_ hS_ hO_ hD
      clear hS_ hO_ hD
      refine s_gen (V := .bool true) [.bool true] (by kernel_rfl) (by kernel_rfl) (by kernel_rfl) ?_
      intro r_ hr_
      have o0_ : r_ (.tmp 53) = .bool true := op_at hr_ 0 (by kernel_rfl) (by kernel_rfl)
      clear hr_
      go_simp; first | done | with_reducible rfl | omega
    simp only [Act.put, planVG, List.setIfInBounds_toArray, List.set_cons_zero, List.set_cons_succ, List.getElem?_cons_zero, List.getElem?_cons_succ]
    refine ⟨?_, ?_⟩
    · as_aux_lemma =>
      intro y_ hS_ hO_ hD
      have Q := ((hS_ (by rfl)).2.2.2.1).cell
      have q0 := Q 0 _ rfl
      have q1 := Q 1 _ rfl
      clear Q hS_ hO_ hD
      refine s_gen (V := bitsV D) [.pointer (some ⟨w2.heap.size, 0, none⟩)] (by kernel_rfl) (by kernel_rfl) (by kernel_rfl) ?_
      intro r_ hr_
      have o0_ : r_ (.tmp 7) = .pointer (some ⟨w2.heap.size, 0, none⟩) := op_at hr_ 0 (by kernel_rfl) (by kernel_rfl)
      clear hr_
      go_simp; first | done | with_reducible rfl
    simp only [Act.put, planVG, List.setIfInBounds_toArray, List.set_cons_zero, List.set_cons_succ, List.getElem?_cons_zero, List.getElem?_cons_succ]
    refine ⟨?_, ?_⟩
    · as_aux_lemma =>
      intro y_ hS_ hO_ hD
      have hS := hS_ (by rfl)
      have n_ : IsN y_ (u3_4) (A) := hS.2.2.2.2.1
      clear hS hS_ hO_ hD
      exact s_num (by rfl) (by rfl) (by rfl) n_
    simp only [Act.put, planVG, List.setIfInBounds_toArray, List.set_cons_zero, List.set_cons_succ, List.getElem?_cons_zero, List.getElem?_cons_succ]
    refine ⟨?_, ?_⟩
    · as_aux_lemma =>
      intro y_ hS_ hO_ hD
      have hS := hS_ (by rfl)
      have n_ : IsN y_ (u3_5) (B) := hS.2.2.2.2.2.1
      clear hS hS_ hO_ hD
      exact s_num (by rfl) (by rfl) (by rfl) n_
    simp only [Act.put, planVG, List.setIfInBounds_toArray, List.set_cons_zero, List.set_cons_succ, List.getElem?_cons_zero, List.getElem?_cons_succ]
    refine ⟨?_, ?_⟩
    · as_aux_lemma =>
      intro y_ hS_ hO_ hD
      have n_14 : IsN y_ (ρ 14) (A) := hD 14 (by decide) (by rfl)
      have n_15 : IsN y_ (ρ 15) (B) := hD 15 (by decide) (by rfl)
      try clear hS
      clear hS_ hO_ hD
      refine s_gcallN (A := A - B) [.func (.func 31) #[] #[], ρ 14, ρ 15] ?_ ?_ (by kernel_rfl) (by kernel_rfl) (by kernel_rfl) ?_ ?_
      rotate_left 2
      · intro r_ hr_
        have o0_ : r_ (.func 31) = .func (.func 31) #[] #[] := op_at hr_ 0 (by kernel_rfl) (by kernel_rfl)
        have o1_ : r_ (.tmp 56) = ρ 14 := op_at hr_ 1 (by kernel_rfl) (by kernel_rfl)
        have o2_ : r_ (.tmp 57) = ρ 15 := op_at hr_ 2 (by kernel_rfl) (by kernel_rfl)
        clear hr_
        go_simp; first | done | with_reducible rfl | (constructor <;> with_reducible rfl)
      · refine refSub_any _ n_14 n_15 (by omega) (by omega) HLE.out
    simp only [Act.put, planVG, List.setIfInBounds_toArray, List.set_cons_zero, List.set_cons_succ, List.getElem?_cons_zero, List.getElem?_cons_succ]
    refine ⟨?_, ?_⟩
    · as_aux_lemma =>
      intro y_ hS_ hO_ hD
      have n_16 : IsN y_ (ρ 16) (A - B) := hD 16 (by decide) (by rfl)
      try clear hS
      clear hS_ hO_ hD
      refine s_gcall (V := bitsV D) [.func (.func 22) #[] #[], ρ 16] ?_ ?_ (by kernel_rfl) (by kernel_rfl) (by kernel_rfl) ?_ ?_
      rotate_left 2
      · intro r_ hr_
        have o0_ : r_ (.func 22) = .func (.func 22) #[] #[] := op_at hr_ 0 (by kernel_rfl) (by kernel_rfl)
        have o1_ : r_ (.tmp 58) = ρ 16 := op_at hr_ 1 (by kernel_rfl) (by kernel_rfl)
        clear hr_
        go_simp; first | done | with_reducible rfl | (constructor <;> with_reducible rfl)
      · refine Bits_eq HE2.out _ n_16 (by omega)
    simp only [Act.put, planVG, List.setIfInBounds_toArray, List.set_cons_zero, List.set_cons_succ, List.getElem?_cons_zero, List.getElem?_cons_succ]
    refine ⟨?_, ?_⟩
    · as_aux_lemma =>
      intro y_ hS_ hO_ hD
      clear hS_ hO_ hD
      refine s_gen (V := .bool true) [bitsV D, bitsV D] (by kernel_rfl) (by kernel_rfl) (by kernel_rfl) ?_
      intro r_ hr_
      have o0_ : r_ (.tmp 55) = bitsV D := op_at hr_ 0 (by kernel_rfl) (by kernel_rfl)
      have o1_ : r_ (.tmp 59) = bitsV D := op_at hr_ 1 (by kernel_rfl) (by kernel_rfl)
      clear hr_
      go_simp; first | done | with_reducible rfl | omega
    simp only [Act.put, planVG, List.setIfInBounds_toArray, List.set_cons_zero, List.set_cons_succ, List.getElem?_cons_zero, List.getElem?_cons_succ]
    refine ⟨?_, ?_⟩
    · as_aux_lemma =>
      intro y_ hS_ hO_ hD
      clear hS_ hO_ hD
      refine s_gen (V := .bool true) [.bool true, .bool true, .bool false] (by kernel_rfl) (by kernel_rfl) (by kernel_rfl) ?_
      intro r_ hr_
      have o0_ : r_ (.tmp 54) = .bool true := op_at hr_ 0 (by kernel_rfl) (by kernel_rfl)
      have o1_ : r_ (.tmp 60) = .bool true := op_at hr_ 1 (by kernel_rfl) (by kernel_rfl)
      have o2_ : r_ (.const (.bool false)) = .bool false := op_at hr_ 2 (by kernel_rfl) (by kernel_rfl)
      clear hr_
      go_simp; first | done | with_reducible rfl | omega
    simp only [Act.put, planVG, List.setIfInBounds_toArray, List.set_cons_zero, List.set_cons_succ, List.getElem?_cons_zero, List.getElem?_cons_succ]
    refine ⟨?_, ?_⟩
    · as_aux_lemma =>
      intro y_ hS_ hO_ hD
      clear hS_ hO_ hD
      refine s_gen (V := .bool true) [.bool true] (by kernel_rfl) (by kernel_rfl) (by kernel_rfl) ?_
      intro r_ hr_
      have o0_ : r_ (.tmp 61) = .bool true := op_at hr_ 0 (by kernel_rfl) (by kernel_rfl)
      clear hr_
      go_simp; first | done | with_reducible rfl | omega
    simp only [Act.put, planVG, List.setIfInBounds_toArray, List.set_cons_zero, List.set_cons_succ, List.getElem?_cons_zero, List.getElem?_cons_succ]
    refine ⟨?_, ?_⟩
    · as_aux_lemma =>
      intro y_ hS_ hO_ hD
      clear hS_ hO_ hD
      refine s_gen (V := .bool false) [.bool false] (by kernel_rfl) (by kernel_rfl) (by kernel_rfl) ?_
      intro r_ hr_
      have o0_ : r_ (.tmp 8) = .bool false := op_at hr_ 0 (by kernel_rfl) (by kernel_rfl)
      clear hr_
      go_simp; first | done | with_reducible rfl | omega
    simp only [Act.put, planVG, List.setIfInBounds_toArray, List.set_cons_zero, List.set_cons_succ, List.getElem?_cons_zero, List.getElem?_cons_succ]
    refine ⟨?_, ?_⟩
    · as_aux_lemma =>
      intro y_ hS_ hO_ hD
      clear hS_ hO_ hD
      refine s_gen (V := .bool false) [.bool false] (by kernel_rfl) (by kernel_rfl) (by kernel_rfl) ?_
      intro r_ hr_
      have o0_ : r_ (.tmp 13) = .bool false := op_at hr_ 0 (by kernel_rfl) (by kernel_rfl)
      clear hr_
      go_simp; first | done | with_reducible rfl | omega
    simp only [Act.put, planVG, List.setIfInBounds_toArray, List.set_cons_zero, List.set_cons_succ, List.getElem?_cons_zero, List.getElem?_cons_succ]
    refine ⟨?_, ?_⟩
    · as_aux_lemma =>
      intro y_ hS_ hO_ hD
      clear hS_ hO_ hD
      refine s_gen (V := .bool true) [.bool false, .bool false] (by kernel_rfl) (by kernel_rfl) (by kernel_rfl) ?_
      intro r_ hr_
      have o0_ : r_ (.tmp 63) = .bool false := op_at hr_ 0 (by kernel_rfl) (by kernel_rfl)
      have o1_ : r_ (.tmp 64) = .bool false := op_at hr_ 1 (by kernel_rfl) (by kernel_rfl)
      clear hr_
      go_simp; first | done | with_reducible rfl | omega
    simp only [Act.put, planVG, List.setIfInBounds_toArray, List.set_cons_zero, List.set_cons_succ, List.getElem?_cons_zero, List.getElem?_cons_succ]
    refine ⟨?_, ?_⟩
    · as_aux_lemma =>
      intro y_ hS_ hO_ hD
      clear hS_ hO_ hD
      refine s_gen (V := .bool true) [.bool true, .bool true, .bool false] (by kernel_rfl) (by kernel_rfl) (by kernel_rfl) ?_
      intro r_ hr_
      have o0_ : r_ (.tmp 62) = .bool true := op_at hr_ 0 (by kernel_rfl) (by kernel_rfl)
      have o1_ : r_ (.tmp 65) = .bool true := op_at hr_ 1 (by kernel_rfl) (by kernel_rfl)
      have o2_ : r_ (.const (.bool false)) = .bool false := op_at hr_ 2 (by kernel_rfl) (by kernel_rfl)
      clear hr_
      go_simp; first | done | with_reducible rfl | omega
    simp only [Act.put, planVG, List.setIfInBounds_toArray, List.set_cons_zero, List.set_cons_succ, List.getElem?_cons_zero, List.getElem?_cons_succ]
    refine ⟨?_, ?_⟩
    · as_aux_lemma =>
      intro y_ hS_ hO_ hD
      clear hS_ hO_ hD
      refine s_gen (V := .bool true) [.bool true] (by kernel_rfl) (by kernel_rfl) (by kernel_rfl) ?_
      intro r_ hr_
      have o0_ : r_ (.tmp 66) = .bool true := op_at hr_ 0 (by kernel_rfl) (by kernel_rfl)
      clear hr_
      go_simp; first | done | with_reducible rfl | omega
    simp only [Act.put, planVG, List.setIfInBounds_toArray, List.set_cons_zero, List.set_cons_succ, List.getElem?_cons_zero, List.getElem?_cons_succ]
    refine ⟨?_, ?_⟩
    · as_aux_lemma =>
      intro y_ hS_ hO_ hD
      try clear hS
      clear hS_ hO_ hD
      refine s_gcall (V := .bool true) [.func (.func 32) #[] #[]] ?_ ?_ (by kernel_rfl) (by kernel_rfl) (by kernel_rfl) ?_ ?_
      rotate_left 2
      · intro r_ hr_
        have o0_ : r_ (.func 32) = .func (.func 32) #[] #[] := op_at hr_ 0 (by kernel_rfl) (by kernel_rfl)
        clear hr_
        go_simp; first | done | with_reducible rfl | (constructor <;> with_reducible rfl)
      · refine counts01_any _
    simp only [Act.put, planVG, List.setIfInBounds_toArray, List.set_cons_zero, List.set_cons_succ, List.getElem?_cons_zero, List.getElem?_cons_succ]
    refine ⟨?_, ?_⟩
    · as_aux_lemma =>
      intro y_ hS_ hO_ hD
      clear hS_ hO_ hD
      refine s_gen (V := .bool true) [.bool true, .bool true, .bool false] (by kernel_rfl) (by kernel_rfl) (by kernel_rfl) ?_
      intro r_ hr_
      have o0_ : r_ (.tmp 67) = .bool true := op_at hr_ 0 (by kernel_rfl) (by kernel_rfl)
      have o1_ : r_ (.tmp 68) = .bool true := op_at hr_ 1 (by kernel_rfl) (by kernel_rfl)
      have o2_ : r_ (.const (.bool false)) = .bool false := op_at hr_ 2 (by kernel_rfl) (by kernel_rfl)
      clear hr_
      go_simp; first | done | with_reducible rfl | omega
    simp only [Act.put, planVG, List.setIfInBounds_toArray, List.set_cons_zero, List.set_cons_succ, List.getElem?_cons_zero, List.getElem?_cons_succ]
    refine ⟨?_, ?_⟩
    · as_aux_lemma =>
      intro y_ hS_ hO_ hD
      clear hS_ hO_ hD
      refine s_gen (V := .bool true) [.bool true] (by kernel_rfl) (by kernel_rfl) (by kernel_rfl) ?_
      intro r_ hr_
      have o0_ : r_ (.tmp 69) = .bool true := op_at hr_ 0 (by kernel_rfl) (by kernel_rfl)
      clear hr_
      go_simp; first | done | with_reducible rfl | omega
    simp only [Act.put, planVG, List.setIfInBounds_toArray, List.set_cons_zero, List.set_cons_succ, List.getElem?_cons_zero, List.getElem?_cons_succ]
    as_aux_lemma =>
      intro w7 hS hF hD_
      change wpList _ _ _ _ _ _
      replace hS := sg_no (by decide) hS
      obtain ⟨hk, hZ7, X3, X4, N3, N4, N5, N6⟩ := hS
      have M1 : IsN w7 (ρ 1) (A + B) := hF 1 (by decide)
      have M6 : IsN w7 (ρ 6) (A + B) := hF 6 (by decide)
      have M7 : IsN w7 (ρ 7) (Z) := hF 7 (by decide)
      have M14 : IsN w7 (ρ 14) (A) := hF 14 (by decide)
      have M15 : IsN w7 (ρ 15) (B) := hF 15 (by decide)
      have M16 : IsN w7 (ρ 16) (A - B) := hF 16 (by decide)
      clear hF hD_
      generalize ρ 1 = u7_1 at *
      generalize ρ 6 = u7_6 at *
      generalize ρ 7 = u7_7 at *
      generalize ρ 14 = u7_14 at *
      generalize ρ 15 = u7_15 at *
      generalize ρ 16 = u7_16 at *
      clear ρ
      have hz_w7 := hk.size
      have X3l := X3.lt
      have X3f := X3.free
      have X3l1 : w1.heap.size < w7.heap.size + 1 := by omega
      have X3l2 : w1.heap.size < w7.heap.size + 1 + 1 := by omega
      have X3l3 : w1.heap.size < w7.heap.size + 1 + 1 + 1 := by omega
      have X30 := X3.cell 0 _ rfl
      have X31 := X3.cell 1 _ rfl
      have X4l := X4.lt
      have X4f := X4.free
      have X4l1 : w2.heap.size < w7.heap.size + 1 := by omega
      have X4l2 : w2.heap.size < w7.heap.size + 1 + 1 := by omega
      have X4l3 : w2.heap.size < w7.heap.size + 1 + 1 + 1 := by omega
      have X40 := X4.cell 0 _ rfl
      have X41 := X4.cell 1 _ rfl
      clear M1
      clear M6
      clear M7
      clear M14
      clear M15
      clear M16
      go_wp2
      go_ret
      exact ⟨rfl, (by refine Kept.below ?_; repeat (first | with_reducible exact hk | with_reducible exact Kept.refl _ | with_reducible refine Kept.alloc ?_ _ | with_reducible refine Kept.drew ?_ | with_reducible refine Kept.setCell ?_ (by simp only [World.size_alloc, World.size_setCell, World.size_drew]; omega) _))⟩

set_option maxRecDepth 100000 in
set_option maxHeartbeats 8000000 in
theorem WordSums_10 {A B S D : Nat} (hA : W128 A) (hB : W128 B) (hS : W128 S) (hD : W128 D) (eS : add128 A B = S) (eD : sub128 A B = D) (h : A < B) (hc : carry128 A B = false) (w : World) :
    Calls Try.prog 4 #[bitsV A, bitsV B] w fun e w' => e = .returned (.bool true) ∧ Below w.heap.size w w' := by
  have hk := Kept.refl w
  obtain ⟨Z, hZ⟩ : ∃ Z : Nat, 2 ^ 128 = Z := ⟨_, rfl⟩
  have hA2 := hA.lt
  have hB2 := hB.lt
  have HE1 := Lib.hid (show bitsV (A + B) = bitsV S by rw [← eS]; exact bits_mod (by unfold add128; omega))
  have HE2 := Lib.hid (show bitsV ((A + Z) - B) = bitsV D by rw [← eD]; exact bits_mod (by unfold sub128; omega))
  have HLE := Lib.hid (show B ≤ (A + Z) by omega)
  have c1 : cmpN A B < 0 := by rw [cmp_neg]; omega
  have c0 : decide (cmpN A B < 0) = true := decide_eq_true c1
  have c2 : cmpN (A + B) Z < 0 := by
    rw [cmp_neg]
    have := of_decide_eq_false hc
    omega
  have HC := Lib.hid hc
  have HB := Lib.hid (show ltB A B = true from decide_eq_true h)
  have lenZ : lenN Z ≤ 5 := lenN_le 5 Z (by omega)
  have la := len128 hA
  have lb := len128 hB
  have ls : lenN (A + B) ≤ 5 := lenN_le 5 _ (by omega)
  have ln : lenN (A + Z) ≤ 5 := lenN_le 5 _ (by omega)
  have lm : lenN ((A + Z) - B) ≤ 5 := lenN_le 5 _ (by omega)
  have HF := Lib.hid hZ
  have HS := Lib.hid eS; have HD := Lib.hid eD
  clear hZ hA2 hB2 eS eD
  clear h hc
  go_enter Try.func4, Try.ntmps4
  go_wp2_with fail
  (with_reducible refine (calls_to (V := .tuple #[bitsV S, .bool false]) (Add_at (IsBits.of hA) (IsBits.of hB) _) (by rw [HS.out, HC.out])).mono ?_)
  rintro e w1 ⟨rfl, hb⟩
  have X1' : Box w1 (w.heap.size) #[.int .u64 (limb 1 A), .int .u64 (limb 0 A)] := Box.call hb (by repeat (first | with_reducible assumption | with_reducible apply Box.set10 | with_reducible apply Box.set20 | with_reducible apply Box.set21 | with_reducible apply Box.set40 | with_reducible apply Box.set41 | with_reducible apply Box.set42 | with_reducible apply Box.set43 | with_reducible apply Box.set50 | with_reducible apply Box.set51 | with_reducible apply Box.set52 | with_reducible apply Box.set53 | with_reducible apply Box.set54 | with_reducible apply Box.drew | (with_reducible apply Box.newAt; (try simp only [World.size_alloc, World.size_setCell, World.size_drew]); done) | with_reducible apply Box.alloc | (with_reducible apply Box.other; case hne => ((try simp only [World.size_alloc, World.size_setCell, World.size_drew]); omega))))
  have X2' : Box w1 (w.heap.size + 1) #[.int .u64 (limb 1 B), .int .u64 (limb 0 B)] := Box.call hb (by repeat (first | with_reducible assumption | with_reducible apply Box.set10 | with_reducible apply Box.set20 | with_reducible apply Box.set21 | with_reducible apply Box.set40 | with_reducible apply Box.set41 | with_reducible apply Box.set42 | with_reducible apply Box.set43 | with_reducible apply Box.set50 | with_reducible apply Box.set51 | with_reducible apply Box.set52 | with_reducible apply Box.set53 | with_reducible apply Box.set54 | with_reducible apply Box.drew | (with_reducible apply Box.newAt; (try simp only [World.size_alloc, World.size_setCell, World.size_drew]); done) | with_reducible apply Box.alloc | (with_reducible apply Box.other; case hne => ((try simp only [World.size_alloc, World.size_setCell, World.size_drew]); omega))))
  have hk' : Kept w.heap.size w w1 := Kept.step (by repeat (first | with_reducible exact hk | with_reducible exact Kept.refl _ | with_reducible refine Kept.alloc ?_ _ | with_reducible refine Kept.drew ?_ | with_reducible refine Kept.setCell ?_ (by simp only [World.size_alloc, World.size_setCell, World.size_drew]; omega) _)) hb
  clear hk hb
  have X1 := X1'
  clear X1'
  have X2 := X2'
  clear X2'
  have hk := hk'
  clear hk'
  have hz_w1 := hk.size
  have X1l := X1.lt
  have X1f := X1.free
  have X1l1 : w.heap.size < w1.heap.size + 1 := by omega
  have X1l2 : w.heap.size < w1.heap.size + 1 + 1 := by omega
  have X1l3 : w.heap.size < w1.heap.size + 1 + 1 + 1 := by omega
  have X10 := X1.cell 0 _ rfl
  have X11 := X1.cell 1 _ rfl
  have X2l := X2.lt
  have X2f := X2.free
  have X2l1 : w.heap.size + 1 < w1.heap.size + 1 := by omega
  have X2l2 : w.heap.size + 1 < w1.heap.size + 1 + 1 := by omega
  have X2l3 : w.heap.size + 1 < w1.heap.size + 1 + 1 + 1 := by omega
  have X20 := X2.cell 0 _ rfl
  have X21 := X2.cell 1 _ rfl
  go_wp2_with fail
  (with_reducible refine (calls_to (V := .tuple #[bitsV D, .bool true]) (Sub_at (IsBits.of hA) (IsBits.of hB) _) (by rw [HD.out, HB.out])).mono ?_)
  rintro e w2 ⟨rfl, hb⟩
  have X1' : Box w2 (w.heap.size) #[.int .u64 (limb 1 A), .int .u64 (limb 0 A)] := Box.call hb (by repeat (first | with_reducible assumption | with_reducible apply Box.set10 | with_reducible apply Box.set20 | with_reducible apply Box.set21 | with_reducible apply Box.set40 | with_reducible apply Box.set41 | with_reducible apply Box.set42 | with_reducible apply Box.set43 | with_reducible apply Box.set50 | with_reducible apply Box.set51 | with_reducible apply Box.set52 | with_reducible apply Box.set53 | with_reducible apply Box.set54 | with_reducible apply Box.drew | (with_reducible apply Box.newAt; (try simp only [World.size_alloc, World.size_setCell, World.size_drew]); done) | with_reducible apply Box.alloc | (with_reducible apply Box.other; case hne => ((try simp only [World.size_alloc, World.size_setCell, World.size_drew]); omega))))
  have X2' : Box w2 (w.heap.size + 1) #[.int .u64 (limb 1 B), .int .u64 (limb 0 B)] := Box.call hb (by repeat (first | with_reducible assumption | with_reducible apply Box.set10 | with_reducible apply Box.set20 | with_reducible apply Box.set21 | with_reducible apply Box.set40 | with_reducible apply Box.set41 | with_reducible apply Box.set42 | with_reducible apply Box.set43 | with_reducible apply Box.set50 | with_reducible apply Box.set51 | with_reducible apply Box.set52 | with_reducible apply Box.set53 | with_reducible apply Box.set54 | with_reducible apply Box.drew | (with_reducible apply Box.newAt; (try simp only [World.size_alloc, World.size_setCell, World.size_drew]); done) | with_reducible apply Box.alloc | (with_reducible apply Box.other; case hne => ((try simp only [World.size_alloc, World.size_setCell, World.size_drew]); omega))))
  have X3' : Box w2 (w1.heap.size) #[.int .u64 (limb 1 S), .int .u64 (limb 0 S)] := Box.call hb (by repeat (first | with_reducible assumption | with_reducible apply Box.set10 | with_reducible apply Box.set20 | with_reducible apply Box.set21 | with_reducible apply Box.set40 | with_reducible apply Box.set41 | with_reducible apply Box.set42 | with_reducible apply Box.set43 | with_reducible apply Box.set50 | with_reducible apply Box.set51 | with_reducible apply Box.set52 | with_reducible apply Box.set53 | with_reducible apply Box.set54 | with_reducible apply Box.drew | (with_reducible apply Box.newAt; (try simp only [World.size_alloc, World.size_setCell, World.size_drew]); done) | with_reducible apply Box.alloc | (with_reducible apply Box.other; case hne => ((try simp only [World.size_alloc, World.size_setCell, World.size_drew]); omega))))
  have hk' : Kept w.heap.size w w2 := Kept.step (by repeat (first | with_reducible exact hk | with_reducible exact Kept.refl _ | with_reducible refine Kept.alloc ?_ _ | with_reducible refine Kept.drew ?_ | with_reducible refine Kept.setCell ?_ (by simp only [World.size_alloc, World.size_setCell, World.size_drew]; omega) _)) hb
  clear hk hb
  clear X1 X1l1 X1l2 X1l3 X1f X10 X11
  clear X2 X2l1 X2l2 X2l3 X2f X20 X21
  have X1 := X1'
  clear X1'
  have X2 := X2'
  clear X2'
  have X3 := X3'
  clear X3'
  have hk := hk'
  clear hk'
  have hz_w2 := hk.size
  have X1l := X1.lt
  have X1f := X1.free
  have X1l1 : w.heap.size < w2.heap.size + 1 := by omega
  have X1l2 : w.heap.size < w2.heap.size + 1 + 1 := by omega
  have X1l3 : w.heap.size < w2.heap.size + 1 + 1 + 1 := by omega
  have X10 := X1.cell 0 _ rfl
  have X11 := X1.cell 1 _ rfl
  have X2l := X2.lt
  have X2f := X2.free
  have X2l1 : w.heap.size + 1 < w2.heap.size + 1 := by omega
  have X2l2 : w.heap.size + 1 < w2.heap.size + 1 + 1 := by omega
  have X2l3 : w.heap.size + 1 < w2.heap.size + 1 + 1 + 1 := by omega
  have X20 := X2.cell 0 _ rfl
  have X21 := X2.cell 1 _ rfl
  have X3l := X3.lt
  have X3f := X3.free
  have X3l1 : w1.heap.size < w2.heap.size + 1 := by omega
  have X3l2 : w1.heap.size < w2.heap.size + 1 + 1 := by omega
  have X3l3 : w1.heap.size < w2.heap.size + 1 + 1 + 1 := by omega
  have X30 := X3.cell 0 _ rfl
  have X31 := X3.cell 1 _ rfl
  go_wp2
  refine wp_region_g 6 (fun W' => Kept w.heap.size w W' ∧ w2.heap.size + 1 ≤ W'.heap.size ∧ Box W' (w.heap.size) #[.int .u64 (limb 1 A), .int .u64 (limb 0 A)] ∧ Box W' (w.heap.size + 1) #[.int .u64 (limb 1 B), .int .u64 (limb 0 B)] ∧ Box W' (w1.heap.size) #[.int .u64 (limb 1 S), .int .u64 (limb 0 S)] ∧ Box W' (w2.heap.size) #[.int .u64 (limb 1 D), .int .u64 (limb 0 D)]) (fun W' => Kept w.heap.size w W' ∧ w2.heap.size + 1 ≤ W'.heap.size ∧ Box W' (w.heap.size) #[.int .u64 (limb 1 A), .int .u64 (limb 0 A)] ∧ Box W' (w.heap.size + 1) #[.int .u64 (limb 1 B), .int .u64 (limb 0 B)] ∧ Box W' (w1.heap.size) #[.int .u64 (limb 1 S), .int .u64 (limb 0 S)] ∧ Box W' (w2.heap.size) #[.int .u64 (limb 1 D), .int .u64 (limb 0 D)]) 1000 (w2.heap.size + 1) [.known (bitsV A), .num (A), .known (bitsV B), .num (B), .num (A), .num (B)] (by kernel_rfl) (by kernel_rfl) (fun W W' h hb => ⟨h.1.step hb, Nat.le_trans (h.2.1) hb.size, Box.call hb (h.2.2.1), Box.call hb (h.2.2.2.1), Box.call hb (h.2.2.2.2.1), Box.call hb (h.2.2.2.2.2)⟩) (fun W W' h hb => ⟨h.1.step hb, Nat.le_trans (h.2.1) hb.size, Box.call hb (h.2.2.1), Box.call hb (h.2.2.2.1), Box.call hb (h.2.2.2.2.1), Box.call hb (h.2.2.2.2.2)⟩) (no_out (of_decide_eq_true (by kernel_rfl))) (.inl (by kernel_rfl)) (.inl (by kernel_rfl)) (fun _ h => h.2.1) (fun _ h => h.2.1) (⟨(by repeat (first | with_reducible exact hk | with_reducible exact Kept.refl _ | with_reducible refine Kept.alloc ?_ _ | with_reducible refine Kept.drew ?_ | with_reducible refine Kept.setCell ?_ (by simp only [World.size_alloc, World.size_setCell, World.size_drew]; omega) _)), (by (try simp only [World.size_alloc, World.size_setCell, World.size_drew]); omega), (by repeat (first | with_reducible assumption | with_reducible apply Box.set10 | with_reducible apply Box.set20 | with_reducible apply Box.set21 | with_reducible apply Box.set40 | with_reducible apply Box.set41 | with_reducible apply Box.set42 | with_reducible apply Box.set43 | with_reducible apply Box.set50 | with_reducible apply Box.set51 | with_reducible apply Box.set52 | with_reducible apply Box.set53 | with_reducible apply Box.set54 | with_reducible apply Box.drew | (with_reducible apply Box.newAt; (try simp only [World.size_alloc, World.size_setCell, World.size_drew]); done) | with_reducible apply Box.alloc | (with_reducible apply Box.other; case hne => ((try simp only [World.size_alloc, World.size_setCell, World.size_drew]); omega)))), (by repeat (first | with_reducible assumption | with_reducible apply Box.set10 | with_reducible apply Box.set20 | with_reducible apply Box.set21 | with_reducible apply Box.set40 | with_reducible apply Box.set41 | with_reducible apply Box.set42 | with_reducible apply Box.set43 | with_reducible apply Box.set50 | with_reducible apply Box.set51 | with_reducible apply Box.set52 | with_reducible apply Box.set53 | with_reducible apply Box.set54 | with_reducible apply Box.drew | (with_reducible apply Box.newAt; (try simp only [World.size_alloc, World.size_setCell, World.size_drew]); done) | with_reducible apply Box.alloc | (with_reducible apply Box.other; case hne => ((try simp only [World.size_alloc, World.size_setCell, World.size_drew]); omega)))), (by repeat (first | with_reducible assumption | with_reducible apply Box.set10 | with_reducible apply Box.set20 | with_reducible apply Box.set21 | with_reducible apply Box.set40 | with_reducible apply Box.set41 | with_reducible apply Box.set42 | with_reducible apply Box.set43 | with_reducible apply Box.set50 | with_reducible apply Box.set51 | with_reducible apply Box.set52 | with_reducible apply Box.set53 | with_reducible apply Box.set54 | with_reducible apply Box.drew | (with_reducible apply Box.newAt; (try simp only [World.size_alloc, World.size_setCell, World.size_drew]); done) | with_reducible apply Box.alloc | (with_reducible apply Box.other; case hne => ((try simp only [World.size_alloc, World.size_setCell, World.size_drew]); omega)))), (by repeat (first | with_reducible assumption | with_reducible apply Box.set10 | with_reducible apply Box.set20 | with_reducible apply Box.set21 | with_reducible apply Box.set40 | with_reducible apply Box.set41 | with_reducible apply Box.set42 | with_reducible apply Box.set43 | with_reducible apply Box.set50 | with_reducible apply Box.set51 | with_reducible apply Box.set52 | with_reducible apply Box.set53 | with_reducible apply Box.set54 | with_reducible apply Box.drew | (with_reducible apply Box.newAt; (try simp only [World.size_alloc, World.size_setCell, World.size_drew]); done) | with_reducible apply Box.alloc | (with_reducible apply Box.other; case hne => ((try simp only [World.size_alloc, World.size_setCell, World.size_drew]); omega))))⟩) ?_
  clear hk
  clear X1 X1l1 X1l2 X1l3 X1f X10 X11
  clear X2 X2l1 X2l2 X2l3 X2f X20 X21
  clear X3 X3l1 X3l2 X3l3 X3f X30 X31
  intro ρ
  simp only [List.take_succ_cons, List.take_zero, List.drop_succ_cons, List.drop_zero]
  refine ⟨?_, ?_⟩
  · as_aux_lemma =>
    intro y_ hS_ hO_ hD
    have Q := ((hS_ (by rfl)).2.2.1).cell
    have q0 := Q 0 _ rfl
    have q1 := Q 1 _ rfl
    clear Q hS_ hO_ hD
    refine s_gen (V := bitsV A) [.pointer (some ⟨w.heap.size, 0, none⟩)] (by kernel_rfl) (by kernel_rfl) (by kernel_rfl) ?_
    intro r_ hr_
    have o0_ : r_ (.tmp 2) = .pointer (some ⟨w.heap.size, 0, none⟩) := op_at hr_ 0 (by kernel_rfl) (by kernel_rfl)
    clear hr_
    go_simp; first | done | with_reducible rfl
  simp only [Act.put, planVG, List.setIfInBounds_toArray, List.set_cons_zero, List.set_cons_succ, List.getElem?_cons_zero, List.getElem?_cons_succ]
  refine ⟨?_, ?_⟩
  · as_aux_lemma =>
    intro y_ hS_ hO_ hD
    try clear hS
    clear hS_ hO_ hD
    refine s_gcallN (A := A) [.func (.func 16) #[] #[], bitsV A] ?_ ?_ (by kernel_rfl) (by kernel_rfl) (by kernel_rfl) ?_ ?_
    rotate_left 2
    · intro r_ hr_
      have o0_ : r_ (.func 16) = .func (.func 16) #[] #[] := op_at hr_ 0 (by kernel_rfl) (by kernel_rfl)
      have o1_ : r_ (.tmp 26) = bitsV A := op_at hr_ 1 (by kernel_rfl) (by kernel_rfl)
      clear hr_
      go_simp; first | done | with_reducible rfl | (constructor <;> with_reducible rfl)
    · refine Big_any (IsBits.of hA).w _
  simp only [Act.put, planVG, List.setIfInBounds_toArray, List.set_cons_zero, List.set_cons_succ, List.getElem?_cons_zero, List.getElem?_cons_succ]
  refine ⟨?_, ?_⟩
  · as_aux_lemma =>
    intro y_ hS_ hO_ hD
    have Q := ((hS_ (by rfl)).2.2.2.1).cell
    have q0 := Q 0 _ rfl
    have q1 := Q 1 _ rfl
    clear Q hS_ hO_ hD
    refine s_gen (V := bitsV B) [.pointer (some ⟨w.heap.size + 1, 0, none⟩)] (by kernel_rfl) (by kernel_rfl) (by kernel_rfl) ?_
    intro r_ hr_
    have o0_ : r_ (.tmp 3) = .pointer (some ⟨w.heap.size + 1, 0, none⟩) := op_at hr_ 0 (by kernel_rfl) (by kernel_rfl)
    clear hr_
    go_simp; first | done | with_reducible rfl
  simp only [Act.put, planVG, List.setIfInBounds_toArray, List.set_cons_zero, List.set_cons_succ, List.getElem?_cons_zero, List.getElem?_cons_succ]
  refine ⟨?_, ?_⟩
  · as_aux_lemma =>
    intro y_ hS_ hO_ hD
    try clear hS
    clear hS_ hO_ hD
    refine s_gcallN (A := B) [.func (.func 16) #[] #[], bitsV B] ?_ ?_ (by kernel_rfl) (by kernel_rfl) (by kernel_rfl) ?_ ?_
    rotate_left 2
    · intro r_ hr_
      have o0_ : r_ (.func 16) = .func (.func 16) #[] #[] := op_at hr_ 0 (by kernel_rfl) (by kernel_rfl)
      have o1_ : r_ (.tmp 28) = bitsV B := op_at hr_ 1 (by kernel_rfl) (by kernel_rfl)
      clear hr_
      go_simp; first | done | with_reducible rfl | (constructor <;> with_reducible rfl)
    · refine Big_any (IsBits.of hB).w _
  simp only [Act.put, planVG, List.setIfInBounds_toArray, List.set_cons_zero, List.set_cons_succ, List.getElem?_cons_zero, List.getElem?_cons_succ]
  refine ⟨?_, ?_⟩
  · as_aux_lemma =>
    intro y_ hS_ hO_ hD
    have hS := hS_ (by rfl)
    have n_ : IsN y_ (ρ 1) (A) := hD 1 (by decide) (by rfl)
    clear hS hS_ hO_ hD
    exact s_num (by rfl) (by rfl) (by rfl) n_
  simp only [Act.put, planVG, List.setIfInBounds_toArray, List.set_cons_zero, List.set_cons_succ, List.getElem?_cons_zero, List.getElem?_cons_succ]
  refine ⟨?_, ?_⟩
  · as_aux_lemma =>
    intro y_ hS_ hO_ hD
    have hS := hS_ (by rfl)
    have n_ : IsN y_ (ρ 3) (B) := hD 3 (by decide) (by rfl)
    clear hS hS_ hO_ hD
    exact s_num (by rfl) (by rfl) (by rfl) n_
  simp only [Act.put, planVG, List.setIfInBounds_toArray, List.set_cons_zero, List.set_cons_succ, List.getElem?_cons_zero, List.getElem?_cons_succ]
  as_aux_lemma =>
    intro w3 hS hF hD_
    change wpList _ _ _ _ _ _
    replace hS := sg_no (by decide) hS
    obtain ⟨hk, hZ3, X1, X2, X3, X4⟩ := hS
    have M1 : IsN w3 (ρ 1) (A) := hF 1 (by decide)
    have M3 : IsN w3 (ρ 3) (B) := hF 3 (by decide)
    have M4 : IsN w3 (ρ 4) (A) := hF 4 (by decide)
    have M5 : IsN w3 (ρ 5) (B) := hF 5 (by decide)
    clear hF hD_
    generalize ρ 1 = u3_1 at *
    generalize ρ 3 = u3_3 at *
    generalize ρ 4 = u3_4 at *
    generalize ρ 5 = u3_5 at *
    clear ρ
    have hz_w3 := hk.size
    have X1l := X1.lt
    have X1f := X1.free
    have X1l1 : w.heap.size < w3.heap.size + 1 := by omega
    have X1l2 : w.heap.size < w3.heap.size + 1 + 1 := by omega
    have X1l3 : w.heap.size < w3.heap.size + 1 + 1 + 1 := by omega
    have X10 := X1.cell 0 _ rfl
    have X11 := X1.cell 1 _ rfl
    have X2l := X2.lt
    have X2f := X2.free
    have X2l1 : w.heap.size + 1 < w3.heap.size + 1 := by omega
    have X2l2 : w.heap.size + 1 < w3.heap.size + 1 + 1 := by omega
    have X2l3 : w.heap.size + 1 < w3.heap.size + 1 + 1 + 1 := by omega
    have X20 := X2.cell 0 _ rfl
    have X21 := X2.cell 1 _ rfl
    have X3l := X3.lt
    have X3f := X3.free
    have X3l1 : w1.heap.size < w3.heap.size + 1 := by omega
    have X3l2 : w1.heap.size < w3.heap.size + 1 + 1 := by omega
    have X3l3 : w1.heap.size < w3.heap.size + 1 + 1 + 1 := by omega
    have X30 := X3.cell 0 _ rfl
    have X31 := X3.cell 1 _ rfl
    have X4l := X4.lt
    have X4f := X4.free
    have X4l1 : w2.heap.size < w3.heap.size + 1 := by omega
    have X4l2 : w2.heap.size < w3.heap.size + 1 + 1 := by omega
    have X4l3 : w2.heap.size < w3.heap.size + 1 + 1 + 1 := by omega
    have X40 := X4.cell 0 _ rfl
    have X41 := X4.cell 1 _ rfl
    clear M1
    clear M3
    have N3 := M4
    clear M4
    have N4 := M5
    clear M5
    go_wp2_with fail
    (with_reducible refine (refAdd_any _ (IsN.kept N3 (by repeat (first | with_reducible exact Kept.refl _ | with_reducible refine Kept.alloc ?_ _ | with_reducible refine Kept.drew ?_ | with_reducible refine Kept.setCell ?_ (by simp only [World.size_alloc, World.size_setCell, World.size_drew]; omega) _))) (IsN.kept N4 (by repeat (first | with_reducible exact Kept.refl _ | with_reducible refine Kept.alloc ?_ _ | with_reducible refine Kept.drew ?_ | with_reducible refine Kept.setCell ?_ (by simp only [World.size_alloc, World.size_setCell, World.size_drew]; omega) _))) (by omega) (by omega)).mono ?_)
    rintro e w4 ⟨vN5, rfl, N5_, hb⟩
    have X3' : Box w4 (w1.heap.size) #[.int .u64 (limb 1 S), .int .u64 (limb 0 S)] := Box.call hb (by repeat (first | with_reducible assumption | with_reducible apply Box.set10 | with_reducible apply Box.set20 | with_reducible apply Box.set21 | with_reducible apply Box.set40 | with_reducible apply Box.set41 | with_reducible apply Box.set42 | with_reducible apply Box.set43 | with_reducible apply Box.set50 | with_reducible apply Box.set51 | with_reducible apply Box.set52 | with_reducible apply Box.set53 | with_reducible apply Box.set54 | with_reducible apply Box.drew | (with_reducible apply Box.newAt; (try simp only [World.size_alloc, World.size_setCell, World.size_drew]); done) | with_reducible apply Box.alloc | (with_reducible apply Box.other; case hne => ((try simp only [World.size_alloc, World.size_setCell, World.size_drew]); omega))))
    have X4' : Box w4 (w2.heap.size) #[.int .u64 (limb 1 D), .int .u64 (limb 0 D)] := Box.call hb (by repeat (first | with_reducible assumption | with_reducible apply Box.set10 | with_reducible apply Box.set20 | with_reducible apply Box.set21 | with_reducible apply Box.set40 | with_reducible apply Box.set41 | with_reducible apply Box.set42 | with_reducible apply Box.set43 | with_reducible apply Box.set50 | with_reducible apply Box.set51 | with_reducible apply Box.set52 | with_reducible apply Box.set53 | with_reducible apply Box.set54 | with_reducible apply Box.drew | (with_reducible apply Box.newAt; (try simp only [World.size_alloc, World.size_setCell, World.size_drew]); done) | with_reducible apply Box.alloc | (with_reducible apply Box.other; case hne => ((try simp only [World.size_alloc, World.size_setCell, World.size_drew]); omega))))
    have N3' : IsN w4 u3_4 (A) := (IsN.kept N3 (by repeat (first | with_reducible exact Kept.refl _ | with_reducible refine Kept.alloc ?_ _ | with_reducible refine Kept.drew ?_ | with_reducible refine Kept.setCell ?_ (by simp only [World.size_alloc, World.size_setCell, World.size_drew]; omega) _))).call hb
    have N4' : IsN w4 u3_5 (B) := (IsN.kept N4 (by repeat (first | with_reducible exact Kept.refl _ | with_reducible refine Kept.alloc ?_ _ | with_reducible refine Kept.drew ?_ | with_reducible refine Kept.setCell ?_ (by simp only [World.size_alloc, World.size_setCell, World.size_drew]; omega) _))).call hb
    have hk' : Kept w.heap.size w w4 := Kept.step (by repeat (first | with_reducible exact hk | with_reducible exact Kept.refl _ | with_reducible refine Kept.alloc ?_ _ | with_reducible refine Kept.drew ?_ | with_reducible refine Kept.setCell ?_ (by simp only [World.size_alloc, World.size_setCell, World.size_drew]; omega) _)) hb
    clear hk hb
    clear X1 X1l1 X1l2 X1l3 X1f X10 X11
    clear X2 X2l1 X2l2 X2l3 X2f X20 X21
    clear X3 X3l1 X3l2 X3l3 X3f X30 X31
    clear X4 X4l1 X4l2 X4l3 X4f X40 X41
    have X3 := X3'
    clear X3'
    have X4 := X4'
    clear X4'
    clear N3
    have N3 := N3'
    clear N3'
    clear N4
    have N4 := N4'
    clear N4'
    have hk := hk'
    clear hk'
    have hz_w4 := hk.size
    have X3l := X3.lt
    have X3f := X3.free
    have X3l1 : w1.heap.size < w4.heap.size + 1 := by omega
    have X3l2 : w1.heap.size < w4.heap.size + 1 + 1 := by omega
    have X3l3 : w1.heap.size < w4.heap.size + 1 + 1 + 1 := by omega
    have X30 := X3.cell 0 _ rfl
    have X31 := X3.cell 1 _ rfl
    have X4l := X4.lt
    have X4f := X4.free
    have X4l1 : w2.heap.size < w4.heap.size + 1 := by omega
    have X4l2 : w2.heap.size < w4.heap.size + 1 + 1 := by omega
    have X4l3 : w2.heap.size < w4.heap.size + 1 + 1 + 1 := by omega
    have X40 := X4.cell 0 _ rfl
    have X41 := X4.cell 1 _ rfl
    have N5 : IsN w4 vN5 (A + B) := N5_
    clear N5_
    go_wp2_with fail
    (with_reducible refine (refFullF HF.out (by omega) (by omega) _).mono ?_)
    rintro e w5 ⟨vN6, rfl, N6_, hb⟩
    have X3' : Box w5 (w1.heap.size) #[.int .u64 (limb 1 S), .int .u64 (limb 0 S)] := Box.call hb (by repeat (first | with_reducible assumption | with_reducible apply Box.set10 | with_reducible apply Box.set20 | with_reducible apply Box.set21 | with_reducible apply Box.set40 | with_reducible apply Box.set41 | with_reducible apply Box.set42 | with_reducible apply Box.set43 | with_reducible apply Box.set50 | with_reducible apply Box.set51 | with_reducible apply Box.set52 | with_reducible apply Box.set53 | with_reducible apply Box.set54 | with_reducible apply Box.drew | (with_reducible apply Box.newAt; (try simp only [World.size_alloc, World.size_setCell, World.size_drew]); done) | with_reducible apply Box.alloc | (with_reducible apply Box.other; case hne => ((try simp only [World.size_alloc, World.size_setCell, World.size_drew]); omega))))
    have X4' : Box w5 (w2.heap.size) #[.int .u64 (limb 1 D), .int .u64 (limb 0 D)] := Box.call hb (by repeat (first | with_reducible assumption | with_reducible apply Box.set10 | with_reducible apply Box.set20 | with_reducible apply Box.set21 | with_reducible apply Box.set40 | with_reducible apply Box.set41 | with_reducible apply Box.set42 | with_reducible apply Box.set43 | with_reducible apply Box.set50 | with_reducible apply Box.set51 | with_reducible apply Box.set52 | with_reducible apply Box.set53 | with_reducible apply Box.set54 | with_reducible apply Box.drew | (with_reducible apply Box.newAt; (try simp only [World.size_alloc, World.size_setCell, World.size_drew]); done) | with_reducible apply Box.alloc | (with_reducible apply Box.other; case hne => ((try simp only [World.size_alloc, World.size_setCell, World.size_drew]); omega))))
    have N3' : IsN w5 u3_4 (A) := (IsN.kept N3 (by repeat (first | with_reducible exact Kept.refl _ | with_reducible refine Kept.alloc ?_ _ | with_reducible refine Kept.drew ?_ | with_reducible refine Kept.setCell ?_ (by simp only [World.size_alloc, World.size_setCell, World.size_drew]; omega) _))).call hb
    have N4' : IsN w5 u3_5 (B) := (IsN.kept N4 (by repeat (first | with_reducible exact Kept.refl _ | with_reducible refine Kept.alloc ?_ _ | with_reducible refine Kept.drew ?_ | with_reducible refine Kept.setCell ?_ (by simp only [World.size_alloc, World.size_setCell, World.size_drew]; omega) _))).call hb
    have N5' : IsN w5 vN5 (A + B) := (IsN.kept N5 (by repeat (first | with_reducible exact Kept.refl _ | with_reducible refine Kept.alloc ?_ _ | with_reducible refine Kept.drew ?_ | with_reducible refine Kept.setCell ?_ (by simp only [World.size_alloc, World.size_setCell, World.size_drew]; omega) _))).call hb
    have hk' : Kept w.heap.size w w5 := Kept.step (by repeat (first | with_reducible exact hk | with_reducible exact Kept.refl _ | with_reducible refine Kept.alloc ?_ _ | with_reducible refine Kept.drew ?_ | with_reducible refine Kept.setCell ?_ (by simp only [World.size_alloc, World.size_setCell, World.size_drew]; omega) _)) hb
    clear hk hb
    clear X3 X3l1 X3l2 X3l3 X3f X30 X31
    clear X4 X4l1 X4l2 X4l3 X4f X40 X41
    have X3 := X3'
    clear X3'
    have X4 := X4'
    clear X4'
    clear N3
    have N3 := N3'
    clear N3'
    clear N4
    have N4 := N4'
    clear N4'
    clear N5
    have N5 := N5'
    clear N5'
    have hk := hk'
    clear hk'
    have hz_w5 := hk.size
    have X3l := X3.lt
    have X3f := X3.free
    have X3l1 : w1.heap.size < w5.heap.size + 1 := by omega
    have X3l2 : w1.heap.size < w5.heap.size + 1 + 1 := by omega
    have X3l3 : w1.heap.size < w5.heap.size + 1 + 1 + 1 := by omega
    have X30 := X3.cell 0 _ rfl
    have X31 := X3.cell 1 _ rfl
    have X4l := X4.lt
    have X4f := X4.free
    have X4l1 : w2.heap.size < w5.heap.size + 1 := by omega
    have X4l2 : w2.heap.size < w5.heap.size + 1 + 1 := by omega
    have X4l3 : w2.heap.size < w5.heap.size + 1 + 1 + 1 := by omega
    have X40 := X4.cell 0 _ rfl
    have X41 := X4.cell 1 _ rfl
    have N6 : IsN w5 vN6 (Z) := N6_
    clear N6_
    go_wp2_with fail
    (with_reducible refine (refCmp_any _ (IsN.kept N3 (by repeat (first | with_reducible exact Kept.refl _ | with_reducible refine Kept.alloc ?_ _ | with_reducible refine Kept.drew ?_ | with_reducible refine Kept.setCell ?_ (by simp only [World.size_alloc, World.size_setCell, World.size_drew]; omega) _))) (IsN.kept N4 (by repeat (first | with_reducible exact Kept.refl _ | with_reducible refine Kept.alloc ?_ _ | with_reducible refine Kept.drew ?_ | with_reducible refine Kept.setCell ?_ (by simp only [World.size_alloc, World.size_setCell, World.size_drew]; omega) _))) (by omega) (by omega)).mono ?_)
    rintro e w6 ⟨rfl, hb⟩
    have X3' : Box w6 (w1.heap.size) #[.int .u64 (limb 1 S), .int .u64 (limb 0 S)] := Box.call hb (by repeat (first | with_reducible assumption | with_reducible apply Box.set10 | with_reducible apply Box.set20 | with_reducible apply Box.set21 | with_reducible apply Box.set40 | with_reducible apply Box.set41 | with_reducible apply Box.set42 | with_reducible apply Box.set43 | with_reducible apply Box.set50 | with_reducible apply Box.set51 | with_reducible apply Box.set52 | with_reducible apply Box.set53 | with_reducible apply Box.set54 | with_reducible apply Box.drew | (with_reducible apply Box.newAt; (try simp only [World.size_alloc, World.size_setCell, World.size_drew]); done) | with_reducible apply Box.alloc | (with_reducible apply Box.other; case hne => ((try simp only [World.size_alloc, World.size_setCell, World.size_drew]); omega))))
    have X4' : Box w6 (w2.heap.size) #[.int .u64 (limb 1 D), .int .u64 (limb 0 D)] := Box.call hb (by repeat (first | with_reducible assumption | with_reducible apply Box.set10 | with_reducible apply Box.set20 | with_reducible apply Box.set21 | with_reducible apply Box.set40 | with_reducible apply Box.set41 | with_reducible apply Box.set42 | with_reducible apply Box.set43 | with_reducible apply Box.set50 | with_reducible apply Box.set51 | with_reducible apply Box.set52 | with_reducible apply Box.set53 | with_reducible apply Box.set54 | with_reducible apply Box.drew | (with_reducible apply Box.newAt; (try simp only [World.size_alloc, World.size_setCell, World.size_drew]); done) | with_reducible apply Box.alloc | (with_reducible apply Box.other; case hne => ((try simp only [World.size_alloc, World.size_setCell, World.size_drew]); omega))))
    have N3' : IsN w6 u3_4 (A) := (IsN.kept N3 (by repeat (first | with_reducible exact Kept.refl _ | with_reducible refine Kept.alloc ?_ _ | with_reducible refine Kept.drew ?_ | with_reducible refine Kept.setCell ?_ (by simp only [World.size_alloc, World.size_setCell, World.size_drew]; omega) _))).call hb
    have N4' : IsN w6 u3_5 (B) := (IsN.kept N4 (by repeat (first | with_reducible exact Kept.refl _ | with_reducible refine Kept.alloc ?_ _ | with_reducible refine Kept.drew ?_ | with_reducible refine Kept.setCell ?_ (by simp only [World.size_alloc, World.size_setCell, World.size_drew]; omega) _))).call hb
    have N5' : IsN w6 vN5 (A + B) := (IsN.kept N5 (by repeat (first | with_reducible exact Kept.refl _ | with_reducible refine Kept.alloc ?_ _ | with_reducible refine Kept.drew ?_ | with_reducible refine Kept.setCell ?_ (by simp only [World.size_alloc, World.size_setCell, World.size_drew]; omega) _))).call hb
    have N6' : IsN w6 vN6 (Z) := (IsN.kept N6 (by repeat (first | with_reducible exact Kept.refl _ | with_reducible refine Kept.alloc ?_ _ | with_reducible refine Kept.drew ?_ | with_reducible refine Kept.setCell ?_ (by simp only [World.size_alloc, World.size_setCell, World.size_drew]; omega) _))).call hb
    have hk' : Kept w.heap.size w w6 := Kept.step (by repeat (first | with_reducible exact hk | with_reducible exact Kept.refl _ | with_reducible refine Kept.alloc ?_ _ | with_reducible refine Kept.drew ?_ | with_reducible refine Kept.setCell ?_ (by simp only [World.size_alloc, World.size_setCell, World.size_drew]; omega) _)) hb
    clear hk hb
    clear X3 X3l1 X3l2 X3l3 X3f X30 X31
    clear X4 X4l1 X4l2 X4l3 X4f X40 X41
    have X3 := X3'
    clear X3'
    have X4 := X4'
    clear X4'
    clear N3
    have N3 := N3'
    clear N3'
    clear N4
    have N4 := N4'
    clear N4'
    clear N5
    have N5 := N5'
    clear N5'
    clear N6
    have N6 := N6'
    clear N6'
    have hk := hk'
    clear hk'
    have hz_w6 := hk.size
    have X3l := X3.lt
    have X3f := X3.free
    have X3l1 : w1.heap.size < w6.heap.size + 1 := by omega
    have X3l2 : w1.heap.size < w6.heap.size + 1 + 1 := by omega
    have X3l3 : w1.heap.size < w6.heap.size + 1 + 1 + 1 := by omega
    have X30 := X3.cell 0 _ rfl
    have X31 := X3.cell 1 _ rfl
    have X4l := X4.lt
    have X4f := X4.free
    have X4l1 : w2.heap.size < w6.heap.size + 1 := by omega
    have X4l2 : w2.heap.size < w6.heap.size + 1 + 1 := by omega
    have X4l3 : w2.heap.size < w6.heap.size + 1 + 1 + 1 := by omega
    have X40 := X4.cell 0 _ rfl
    have X41 := X4.cell 1 _ rfl
    go_wp2_with fail
    (with_reducible refine (refAdd_any _ (IsN.kept N3 (by repeat (first | with_reducible exact Kept.refl _ | with_reducible refine Kept.alloc ?_ _ | with_reducible refine Kept.drew ?_ | with_reducible refine Kept.setCell ?_ (by simp only [World.size_alloc, World.size_setCell, World.size_drew]; omega) _))) (IsN.kept N6 (by repeat (first | with_reducible exact Kept.refl _ | with_reducible refine Kept.alloc ?_ _ | with_reducible refine Kept.drew ?_ | with_reducible refine Kept.setCell ?_ (by simp only [World.size_alloc, World.size_setCell, World.size_drew]; omega) _))) (by omega) (by omega)).mono ?_)
    rintro e w7 ⟨vN7, rfl, N7_, hb⟩
    have X3' : Box w7 (w1.heap.size) #[.int .u64 (limb 1 S), .int .u64 (limb 0 S)] := Box.call hb (by repeat (first | with_reducible assumption | with_reducible apply Box.set10 | with_reducible apply Box.set20 | with_reducible apply Box.set21 | with_reducible apply Box.set40 | with_reducible apply Box.set41 | with_reducible apply Box.set42 | with_reducible apply Box.set43 | with_reducible apply Box.set50 | with_reducible apply Box.set51 | with_reducible apply Box.set52 | with_reducible apply Box.set53 | with_reducible apply Box.set54 | with_reducible apply Box.drew | (with_reducible apply Box.newAt; (try simp only [World.size_alloc, World.size_setCell, World.size_drew]); done) | with_reducible apply Box.alloc | (with_reducible apply Box.other; case hne => ((try simp only [World.size_alloc, World.size_setCell, World.size_drew]); omega))))
    have X4' : Box w7 (w2.heap.size) #[.int .u64 (limb 1 D), .int .u64 (limb 0 D)] := Box.call hb (by repeat (first | with_reducible assumption | with_reducible apply Box.set10 | with_reducible apply Box.set20 | with_reducible apply Box.set21 | with_reducible apply Box.set40 | with_reducible apply Box.set41 | with_reducible apply Box.set42 | with_reducible apply Box.set43 | with_reducible apply Box.set50 | with_reducible apply Box.set51 | with_reducible apply Box.set52 | with_reducible apply Box.set53 | with_reducible apply Box.set54 | with_reducible apply Box.drew | (with_reducible apply Box.newAt; (try simp only [World.size_alloc, World.size_setCell, World.size_drew]); done) | with_reducible apply Box.alloc | (with_reducible apply Box.other; case hne => ((try simp only [World.size_alloc, World.size_setCell, World.size_drew]); omega))))
    have N3' : IsN w7 u3_4 (A) := (IsN.kept N3 (by repeat (first | with_reducible exact Kept.refl _ | with_reducible refine Kept.alloc ?_ _ | with_reducible refine Kept.drew ?_ | with_reducible refine Kept.setCell ?_ (by simp only [World.size_alloc, World.size_setCell, World.size_drew]; omega) _))).call hb
    have N4' : IsN w7 u3_5 (B) := (IsN.kept N4 (by repeat (first | with_reducible exact Kept.refl _ | with_reducible refine Kept.alloc ?_ _ | with_reducible refine Kept.drew ?_ | with_reducible refine Kept.setCell ?_ (by simp only [World.size_alloc, World.size_setCell, World.size_drew]; omega) _))).call hb
    have N5' : IsN w7 vN5 (A + B) := (IsN.kept N5 (by repeat (first | with_reducible exact Kept.refl _ | with_reducible refine Kept.alloc ?_ _ | with_reducible refine Kept.drew ?_ | with_reducible refine Kept.setCell ?_ (by simp only [World.size_alloc, World.size_setCell, World.size_drew]; omega) _))).call hb
    have N6' : IsN w7 vN6 (Z) := (IsN.kept N6 (by repeat (first | with_reducible exact Kept.refl _ | with_reducible refine Kept.alloc ?_ _ | with_reducible refine Kept.drew ?_ | with_reducible refine Kept.setCell ?_ (by simp only [World.size_alloc, World.size_setCell, World.size_drew]; omega) _))).call hb
    have hk' : Kept w.heap.size w w7 := Kept.step (by repeat (first | with_reducible exact hk | with_reducible exact Kept.refl _ | with_reducible refine Kept.alloc ?_ _ | with_reducible refine Kept.drew ?_ | with_reducible refine Kept.setCell ?_ (by simp only [World.size_alloc, World.size_setCell, World.size_drew]; omega) _)) hb
    clear hk hb
    clear X3 X3l1 X3l2 X3l3 X3f X30 X31
    clear X4 X4l1 X4l2 X4l3 X4f X40 X41
    have X3 := X3'
    clear X3'
    have X4 := X4'
    clear X4'
    clear N3
    have N3 := N3'
    clear N3'
    clear N4
    have N4 := N4'
    clear N4'
    clear N5
    have N5 := N5'
    clear N5'
    clear N6
    have N6 := N6'
    clear N6'
    have hk := hk'
    clear hk'
    have hz_w7 := hk.size
    have X3l := X3.lt
    have X3f := X3.free
    have X3l1 : w1.heap.size < w7.heap.size + 1 := by omega
    have X3l2 : w1.heap.size < w7.heap.size + 1 + 1 := by omega
    have X3l3 : w1.heap.size < w7.heap.size + 1 + 1 + 1 := by omega
    have X30 := X3.cell 0 _ rfl
    have X31 := X3.cell 1 _ rfl
    have X4l := X4.lt
    have X4f := X4.free
    have X4l1 : w2.heap.size < w7.heap.size + 1 := by omega
    have X4l2 : w2.heap.size < w7.heap.size + 1 + 1 := by omega
    have X4l3 : w2.heap.size < w7.heap.size + 1 + 1 + 1 := by omega
    have X40 := X4.cell 0 _ rfl
    have X41 := X4.cell 1 _ rfl
    have N7 : IsN w7 vN7 (A + Z) := N7_
    clear N7_
    clear N3
    go_wp2
    refine wp_region_g 29 (fun W' => Kept w.heap.size w W' ∧ w7.heap.size ≤ W'.heap.size ∧ Box W' (w1.heap.size) #[.int .u64 (limb 1 S), .int .u64 (limb 0 S)] ∧ Box W' (w2.heap.size) #[.int .u64 (limb 1 D), .int .u64 (limb 0 D)] ∧ IsN W' u3_5 (B) ∧ IsN W' vN5 (A + B) ∧ IsN W' vN6 (Z) ∧ IsN W' vN7 (A + Z)) (fun W' => Kept w.heap.size w W' ∧ w7.heap.size ≤ W'.heap.size ∧ Box W' (w1.heap.size) #[.int .u64 (limb 1 S), .int .u64 (limb 0 S)] ∧ Box W' (w2.heap.size) #[.int .u64 (limb 1 D), .int .u64 (limb 0 D)] ∧ IsN W' u3_5 (B) ∧ IsN W' vN5 (A + B) ∧ IsN W' vN6 (Z) ∧ IsN W' vN7 (A + Z)) 1000 (w7.heap.size) [.known (bitsV S), .num (A + B), .known (bitsV S), .known (.bool true), .known (.bool true), .known (.bool false), .num (A + B), .num (Z), .known (.int .i64 (cmpN (A + B) Z)), .known (.bool false), .known (.bool true), .known (.bool true), .known (.bool true), .known (bitsV D), .num (A + Z), .num (B), .num ((A + Z) - B), .known (bitsV D), .known (.bool true), .known (.bool true), .known (.bool true), .known (.bool true), .known (.bool true), .known (.bool true), .known (.bool true), .known (.bool true), .known (.bool true), .known (.bool true), .known (.bool true)] (by kernel_rfl) (by kernel_rfl) (fun W W' h hb => ⟨h.1.step hb, Nat.le_trans (h.2.1) hb.size, Box.call hb (h.2.2.1), Box.call hb (h.2.2.2.1), IsN.call (h.2.2.2.2.1) hb, IsN.call (h.2.2.2.2.2.1) hb, IsN.call (h.2.2.2.2.2.2.1) hb, IsN.call (h.2.2.2.2.2.2.2) hb⟩) (fun W W' h hb => ⟨h.1.step hb, Nat.le_trans (h.2.1) hb.size, Box.call hb (h.2.2.1), Box.call hb (h.2.2.2.1), IsN.call (h.2.2.2.2.1) hb, IsN.call (h.2.2.2.2.2.1) hb, IsN.call (h.2.2.2.2.2.2.1) hb, IsN.call (h.2.2.2.2.2.2.2) hb⟩) (no_out (of_decide_eq_true (by kernel_rfl))) (.inl (by kernel_rfl)) (.inl (by kernel_rfl)) (fun _ h => h.2.1) (fun _ h => h.2.1) (⟨(by repeat (first | with_reducible exact hk | with_reducible exact Kept.refl _ | with_reducible refine Kept.alloc ?_ _ | with_reducible refine Kept.drew ?_ | with_reducible refine Kept.setCell ?_ (by simp only [World.size_alloc, World.size_setCell, World.size_drew]; omega) _)), (by (try simp only [World.size_alloc, World.size_setCell, World.size_drew]); omega), (by repeat (first | with_reducible assumption | with_reducible apply Box.set10 | with_reducible apply Box.set20 | with_reducible apply Box.set21 | with_reducible apply Box.set40 | with_reducible apply Box.set41 | with_reducible apply Box.set42 | with_reducible apply Box.set43 | with_reducible apply Box.set50 | with_reducible apply Box.set51 | with_reducible apply Box.set52 | with_reducible apply Box.set53 | with_reducible apply Box.set54 | with_reducible apply Box.drew | (with_reducible apply Box.newAt; (try simp only [World.size_alloc, World.size_setCell, World.size_drew]); done) | with_reducible apply Box.alloc | (with_reducible apply Box.other; case hne => ((try simp only [World.size_alloc, World.size_setCell, World.size_drew]); omega)))), (by repeat (first | with_reducible assumption | with_reducible apply Box.set10 | with_reducible apply Box.set20 | with_reducible apply Box.set21 | with_reducible apply Box.set40 | with_reducible apply Box.set41 | with_reducible apply Box.set42 | with_reducible apply Box.set43 | with_reducible apply Box.set50 | with_reducible apply Box.set51 | with_reducible apply Box.set52 | with_reducible apply Box.set53 | with_reducible apply Box.set54 | with_reducible apply Box.drew | (with_reducible apply Box.newAt; (try simp only [World.size_alloc, World.size_setCell, World.size_drew]); done) | with_reducible apply Box.alloc | (with_reducible apply Box.other; case hne => ((try simp only [World.size_alloc, World.size_setCell, World.size_drew]); omega)))), (IsN.drew (IsN.kept N4 (by repeat (first | with_reducible exact Kept.refl _ | with_reducible refine Kept.alloc ?_ _ | with_reducible refine Kept.drew ?_ | with_reducible refine Kept.setCell ?_ (by simp only [World.size_alloc, World.size_setCell, World.size_drew]; omega) _)))), (IsN.drew (IsN.kept N5 (by repeat (first | with_reducible exact Kept.refl _ | with_reducible refine Kept.alloc ?_ _ | with_reducible refine Kept.drew ?_ | with_reducible refine Kept.setCell ?_ (by simp only [World.size_alloc, World.size_setCell, World.size_drew]; omega) _)))), (IsN.drew (IsN.kept N6 (by repeat (first | with_reducible exact Kept.refl _ | with_reducible refine Kept.alloc ?_ _ | with_reducible refine Kept.drew ?_ | with_reducible refine Kept.setCell ?_ (by simp only [World.size_alloc, World.size_setCell, World.size_drew]; omega) _)))), (IsN.drew (IsN.kept N7 (by repeat (first | with_reducible exact Kept.refl _ | with_reducible refine Kept.alloc ?_ _ | with_reducible refine Kept.drew ?_ | with_reducible refine Kept.setCell ?_ (by simp only [World.size_alloc, World.size_setCell, World.size_drew]; omega) _))))⟩) ?_
    clear hk
    clear X3 X3l1 X3l2 X3l3 X3f X30 X31
    clear X4 X4l1 X4l2 X4l3 X4f X40 X41
    clear N4
    clear N5
    clear N6
    clear N7
    intro ρ
    simp only [List.take_succ_cons, List.take_zero, List.drop_succ_cons, List.drop_zero]
    refine ⟨?_, ?_⟩
    · as_aux_lemma =>
      intro y_ hS_ hO_ hD
      have Q := ((hS_ (by rfl)).2.2.1).cell
      have q0 := Q 0 _ rfl
      have q1 := Q 1 _ rfl
      clear Q hS_ hO_ hD
      refine s_gen (V := bitsV S) [.pointer (some ⟨w1.heap.size, 0, none⟩)] (by kernel_rfl) (by kernel_rfl) (by kernel_rfl) ?_
      intro r_ hr_
      have o0_ : r_ (.tmp 5) = .pointer (some ⟨w1.heap.size, 0, none⟩) := op_at hr_ 0 (by kernel_rfl) (by kernel_rfl)
      clear hr_
      go_simp; first | done | with_reducible rfl
    simp only [Act.put, planVG, List.setIfInBounds_toArray, List.set_cons_zero, List.set_cons_succ, List.getElem?_cons_zero, List.getElem?_cons_succ]
    refine ⟨?_, ?_⟩
    · as_aux_lemma =>
      intro y_ hS_ hO_ hD
      have hS := hS_ (by rfl)
      have n_ : IsN y_ (vN5) (A + B) := hS.2.2.2.2.2.1
      clear hS hS_ hO_ hD
      exact s_num (by rfl) (by rfl) (by rfl) n_
    simp only [Act.put, planVG, List.setIfInBounds_toArray, List.set_cons_zero, List.set_cons_succ, List.getElem?_cons_zero, List.getElem?_cons_succ]
    refine ⟨?_, ?_⟩
    · as_aux_lemma =>
      intro y_ hS_ hO_ hD
      have n_1 : IsN y_ (ρ 1) (A + B) := hD 1 (by decide) (by rfl)
      try clear hS
      clear hS_ hO_ hD
      refine s_gcall (V := bitsV S) [.func (.func 22) #[] #[], ρ 1] ?_ ?_ (by kernel_rfl) (by kernel_rfl) (by kernel_rfl) ?_ ?_
      rotate_left 2
      · intro r_ hr_
        have o0_ : r_ (.func 22) = .func (.func 22) #[] #[] := op_at hr_ 0 (by kernel_rfl) (by kernel_rfl)
        have o1_ : r_ (.tmp 43) = ρ 1 := op_at hr_ 1 (by kernel_rfl) (by kernel_rfl)
        clear hr_
        go_simp; first | done | with_reducible rfl | (constructor <;> with_reducible rfl)
      · refine Bits_eq HE1.out _ n_1 (by omega)
    simp only [Act.put, planVG, List.setIfInBounds_toArray, List.set_cons_zero, List.set_cons_succ, List.getElem?_cons_zero, List.getElem?_cons_succ]
    refine ⟨?_, ?_⟩
    · as_aux_lemma =>
      intro y_ hS_ hO_ hD
      clear hS_ hO_ hD
      refine s_gen (V := .bool true) [bitsV S, bitsV S] (by kernel_rfl) (by kernel_rfl) (by kernel_rfl) ?_
      intro r_ hr_
      have o0_ : r_ (.tmp 42) = bitsV S := op_at hr_ 0 (by kernel_rfl) (by kernel_rfl)
      have o1_ : r_ (.tmp 44) = bitsV S := op_at hr_ 1 (by kernel_rfl) (by kernel_rfl)
      clear hr_
      go_simp; first | done | with_reducible rfl | omega
    simp only [Act.put, planVG, List.setIfInBounds_toArray, List.set_cons_zero, List.set_cons_succ, List.getElem?_cons_zero, List.getElem?_cons_succ]
    refine ⟨?_, ?_⟩
    · as_aux_lemma =>
      intro y_ hS_ hO_ hD
      clear hS_ hO_ hD
      refine s_gen (V := .bool true) [.bool true] (by kernel_rfl) (by kernel_rfl) (by kernel_rfl) ?_
      intro r_ hr_
      have o0_ : r_ (.tmp 45) = .bool true := op_at hr_ 0 (by kernel_rfl) (by kernel_rfl)
      clear hr_
      go_simp; first | done | with_reducible rfl | omega
    simp only [Act.put, planVG, List.setIfInBounds_toArray, List.set_cons_zero, List.set_cons_succ, List.getElem?_cons_zero, List.getElem?_cons_succ]
    refine ⟨?_, ?_⟩
    · as_aux_lemma =>
      intro y_ hS_ hO_ hD
      clear hS_ hO_ hD
      refine s_gen (V := .bool false) [.bool false] (by kernel_rfl) (by kernel_rfl) (by kernel_rfl) ?_
      intro r_ hr_
      have o0_ : r_ (.tmp 6) = .bool false := op_at hr_ 0 (by kernel_rfl) (by kernel_rfl)
      clear hr_
      go_simp; first | done | with_reducible rfl | omega
    simp only [Act.put, planVG, List.setIfInBounds_toArray, List.set_cons_zero, List.set_cons_succ, List.getElem?_cons_zero, List.getElem?_cons_succ]
    refine ⟨?_, ?_⟩
    · as_aux_lemma =>
      intro y_ hS_ hO_ hD
      have hS := hS_ (by rfl)
      have n_ : IsN y_ (vN5) (A + B) := hS.2.2.2.2.2.1
      clear hS hS_ hO_ hD
      exact s_num (by rfl) (by rfl) (by rfl) n_
    simp only [Act.put, planVG, List.setIfInBounds_toArray, List.set_cons_zero, List.set_cons_succ, List.getElem?_cons_zero, List.getElem?_cons_succ]
    refine ⟨?_, ?_⟩
    · as_aux_lemma =>
      intro y_ hS_ hO_ hD
      have hS := hS_ (by rfl)
      have n_ : IsN y_ (vN6) (Z) := hS.2.2.2.2.2.2.1
      clear hS hS_ hO_ hD
      exact s_num (by rfl) (by rfl) (by rfl) n_
    simp only [Act.put, planVG, List.setIfInBounds_toArray, List.set_cons_zero, List.set_cons_succ, List.getElem?_cons_zero, List.getElem?_cons_succ]
    refine ⟨?_, ?_⟩
    · as_aux_lemma =>
      intro y_ hS_ hO_ hD
      have n_6 : IsN y_ (ρ 6) (A + B) := hD 6 (by decide) (by rfl)
      have n_7 : IsN y_ (ρ 7) (Z) := hD 7 (by decide) (by rfl)
      try clear hS
      clear hS_ hO_ hD
      refine s_gcall (V := .int .i64 (cmpN (A + B) Z)) [.func (.func 30) #[] #[], ρ 6, ρ 7] ?_ ?_ (by kernel_rfl) (by kernel_rfl) (by kernel_rfl) ?_ ?_
      rotate_left 2
      · intro r_ hr_
        have o0_ : r_ (.func 30) = .func (.func 30) #[] #[] := op_at hr_ 0 (by kernel_rfl) (by kernel_rfl)
        have o1_ : r_ (.tmp 48) = ρ 6 := op_at hr_ 1 (by kernel_rfl) (by kernel_rfl)
        have o2_ : r_ (.tmp 49) = ρ 7 := op_at hr_ 2 (by kernel_rfl) (by kernel_rfl)
        clear hr_
        go_simp; first | done | with_reducible rfl | (constructor <;> with_reducible rfl)
      · refine refCmp_any _ n_6 n_7 (by omega) (by omega)
    simp only [Act.put, planVG, List.setIfInBounds_toArray, List.set_cons_zero, List.set_cons_succ, List.getElem?_cons_zero, List.getElem?_cons_succ]
    refine ⟨?_, ?_⟩
    · as_aux_lemma =>
      intro y_ hS_ hO_ hD
      clear hS_ hO_ hD
      refine s_gen (V := .bool false) [.int .i64 (cmpN (A + B) Z), .int .i64 0] (by kernel_rfl) (by kernel_rfl) (by kernel_rfl) ?_
      intro r_ hr_
      have o0_ : r_ (.tmp 50) = .int .i64 (cmpN (A + B) Z) := op_at hr_ 0 (by kernel_rfl) (by kernel_rfl)
      have o1_ : r_ (.const (.int .i64 0)) = .int .i64 0 := op_at hr_ 1 (by kernel_rfl) (by kernel_rfl)
      clear hr_
      go_simp; first | done | with_reducible rfl | omega
    simp only [Act.put, planVG, List.setIfInBounds_toArray, List.set_cons_zero, List.set_cons_succ, List.getElem?_cons_zero, List.getElem?_cons_succ]
    refine ⟨?_, ?_⟩
    · as_aux_lemma =>
      intro y_ hS_ hO_ hD
      clear hS_ hO_ hD
      refine s_gen (V := .bool true) [.bool false, .bool false] (by kernel_rfl) (by kernel_rfl) (by kernel_rfl) ?_
      intro r_ hr_
      have o0_ : r_ (.tmp 47) = .bool false := op_at hr_ 0 (by kernel_rfl) (by kernel_rfl)
      have o1_ : r_ (.tmp 51) = .bool false := op_at hr_ 1 (by kernel_rfl) (by kernel_rfl)
      clear hr_
      go_simp; first | done | with_reducible rfl | omega
    simp only [Act.put, planVG, List.setIfInBounds_toArray, List.set_cons_zero, List.set_cons_succ, List.getElem?_cons_zero, List.getElem?_cons_succ]
    refine ⟨?_, ?_⟩
    · as_aux_lemma =>
      intro y_ hS_ hO_ hD
      clear hS_ hO_ hD
      refine s_gen (V := .bool true) [.bool true, .bool true, .bool false] (by kernel_rfl) (by kernel_rfl) (by kernel_rfl) ?_
      intro r_ hr_
      have o0_ : r_ (.tmp 46) = .bool true := op_at hr_ 0 (by kernel_rfl) (by kernel_rfl)
      have o1_ : r_ (.tmp 52) = .bool true := op_at hr_ 1 (by kernel_rfl) (by kernel_rfl)
      have o2_ : r_ (.const (.bool false)) = .bool false := op_at hr_ 2 (by kernel_rfl) (by kernel_rfl)
      clear hr_
      go_simp; first | done | with_reducible rfl | omega
    simp only [Act.put, planVG, List.setIfInBounds_toArray, List.set_cons_zero, List.set_cons_succ, List.getElem?_cons_zero, List.getElem?_cons_succ]
    refine ⟨?_, ?_⟩
    · as_aux_lemma =>
      intro y_ hS_ hO_ hD
      clear hS_ hO_ hD
      refine s_gen (V := .bool true) [.bool true] (by kernel_rfl) (by kernel_rfl) (by kernel_rfl) ?_
      intro r_ hr_
      have o0_ : r_ (.tmp 53) = .bool true := op_at hr_ 0 (by kernel_rfl) (by kernel_rfl)
      clear hr_
      go_simp; first | done | with_reducible rfl | omega
    simp only [Act.put, planVG, List.setIfInBounds_toArray, List.set_cons_zero, List.set_cons_succ, List.getElem?_cons_zero, List.getElem?_cons_succ]
    refine ⟨?_, ?_⟩
    · as_aux_lemma =>
      intro y_ hS_ hO_ hD
      have Q := ((hS_ (by rfl)).2.2.2.1).cell
      have q0 := Q 0 _ rfl
      have q1 := Q 1 _ rfl
      clear Q hS_ hO_ hD
      refine s_gen (V := bitsV D) [.pointer (some ⟨w2.heap.size, 0, none⟩)] (by kernel_rfl) (by kernel_rfl) (by kernel_rfl) ?_
      intro r_ hr_
      have o0_ : r_ (.tmp 7) = .pointer (some ⟨w2.heap.size, 0, none⟩) := op_at hr_ 0 (by kernel_rfl) (by kernel_rfl)
      clear hr_
      go_simp; first | done | with_reducible rfl
    simp only [Act.put, planVG, List.setIfInBounds_toArray, List.set_cons_zero, List.set_cons_succ, List.getElem?_cons_zero, List.getElem?_cons_succ]
    refine ⟨?_, ?_⟩
    · as_aux_lemma =>
      intro y_ hS_ hO_ hD
      have hS := hS_ (by rfl)
      have n_ : IsN y_ (vN7) (A + Z) := hS.2.2.2.2.2.2.2
      clear hS hS_ hO_ hD
      exact s_num (by rfl) (by rfl) (by rfl) n_
    simp only [Act.put, planVG, List.setIfInBounds_toArray, List.set_cons_zero, List.set_cons_succ, List.getElem?_cons_zero, List.getElem?_cons_succ]
    refine ⟨?_, ?_⟩
    · as_aux_lemma =>
      intro y_ hS_ hO_ hD
      have hS := hS_ (by rfl)
      have n_ : IsN y_ (u3_5) (B) := hS.2.2.2.2.1
      clear hS hS_ hO_ hD
      exact s_num (by rfl) (by rfl) (by rfl) n_
    simp only [Act.put, planVG, List.setIfInBounds_toArray, List.set_cons_zero, List.set_cons_succ, List.getElem?_cons_zero, List.getElem?_cons_succ]
    refine ⟨?_, ?_⟩
    · as_aux_lemma =>
      intro y_ hS_ hO_ hD
      have n_14 : IsN y_ (ρ 14) (A + Z) := hD 14 (by decide) (by rfl)
      have n_15 : IsN y_ (ρ 15) (B) := hD 15 (by decide) (by rfl)
      try clear hS
      clear hS_ hO_ hD
      refine s_gcallN (A := (A + Z) - B) [.func (.func 31) #[] #[], ρ 14, ρ 15] ?_ ?_ (by kernel_rfl) (by kernel_rfl) (by kernel_rfl) ?_ ?_
      rotate_left 2
      · intro r_ hr_
        have o0_ : r_ (.func 31) = .func (.func 31) #[] #[] := op_at hr_ 0 (by kernel_rfl) (by kernel_rfl)
        have o1_ : r_ (.tmp 56) = ρ 14 := op_at hr_ 1 (by kernel_rfl) (by kernel_rfl)
        have o2_ : r_ (.tmp 57) = ρ 15 := op_at hr_ 2 (by kernel_rfl) (by kernel_rfl)
        clear hr_
        go_simp; first | done | with_reducible rfl | (constructor <;> with_reducible rfl)
      · refine refSub_any _ n_14 n_15 (by omega) (by omega) HLE.out
    simp only [Act.put, planVG, List.setIfInBounds_toArray, List.set_cons_zero, List.set_cons_succ, List.getElem?_cons_zero, List.getElem?_cons_succ]
    refine ⟨?_, ?_⟩
    · as_aux_lemma =>
      intro y_ hS_ hO_ hD
      have n_16 : IsN y_ (ρ 16) ((A + Z) - B) := hD 16 (by decide) (by rfl)
      try clear hS
      clear hS_ hO_ hD
      refine s_gcall (V := bitsV D) [.func (.func 22) #[] #[], ρ 16] ?_ ?_ (by kernel_rfl) (by kernel_rfl) (by kernel_rfl) ?_ ?_
      rotate_left 2
      · intro r_ hr_
        have o0_ : r_ (.func 22) = .func (.func 22) #[] #[] := op_at hr_ 0 (by kernel_rfl) (by kernel_rfl)
        have o1_ : r_ (.tmp 58) = ρ 16 := op_at hr_ 1 (by kernel_rfl) (by kernel_rfl)
        clear hr_
        go_simp; first | done | with_reducible rfl | (constructor <;> with_reducible rfl)
      · refine Bits_eq HE2.out _ n_16 (by omega)
    simp only [Act.put, planVG, List.setIfInBounds_toArray, List.set_cons_zero, List.set_cons_succ, List.getElem?_cons_zero, List.getElem?_cons_succ]
    refine ⟨?_, ?_⟩
    · as_aux_lemma =>
      intro y_ hS_ hO_ hD
      clear hS_ hO_ hD
      refine s_gen (V := .bool true) [bitsV D, bitsV D] (by kernel_rfl) (by kernel_rfl) (by kernel_rfl) ?_
      intro r_ hr_
      have o0_ : r_ (.tmp 55) = bitsV D := op_at hr_ 0 (by kernel_rfl) (by kernel_rfl)
      have o1_ : r_ (.tmp 59) = bitsV D := op_at hr_ 1 (by kernel_rfl) (by kernel_rfl)
      clear hr_
      go_simp; first | done | with_reducible rfl | omega
    simp only [Act.put, planVG, List.setIfInBounds_toArray, List.set_cons_zero, List.set_cons_succ, List.getElem?_cons_zero, List.getElem?_cons_succ]
    refine ⟨?_, ?_⟩
    · as_aux_lemma =>
      intro y_ hS_ hO_ hD
      clear hS_ hO_ hD
      refine s_gen (V := .bool true) [.bool true, .bool true, .bool false] (by kernel_rfl) (by kernel_rfl) (by kernel_rfl) ?_
      intro r_ hr_
      have o0_ : r_ (.tmp 54) = .bool true := op_at hr_ 0 (by kernel_rfl) (by kernel_rfl)
      have o1_ : r_ (.tmp 60) = .bool true := op_at hr_ 1 (by kernel_rfl) (by kernel_rfl)
      have o2_ : r_ (.const (.bool false)) = .bool false := op_at hr_ 2 (by kernel_rfl) (by kernel_rfl)
      clear hr_
      go_simp; first | done | with_reducible rfl | omega
    simp only [Act.put, planVG, List.setIfInBounds_toArray, List.set_cons_zero, List.set_cons_succ, List.getElem?_cons_zero, List.getElem?_cons_succ]
    refine ⟨?_, ?_⟩
    · as_aux_lemma =>
      intro y_ hS_ hO_ hD
      clear hS_ hO_ hD
      refine s_gen (V := .bool true) [.bool true] (by kernel_rfl) (by kernel_rfl) (by kernel_rfl) ?_
      intro r_ hr_
      have o0_ : r_ (.tmp 61) = .bool true := op_at hr_ 0 (by kernel_rfl) (by kernel_rfl)
      clear hr_
      go_simp; first | done | with_reducible rfl | omega
    simp only [Act.put, planVG, List.setIfInBounds_toArray, List.set_cons_zero, List.set_cons_succ, List.getElem?_cons_zero, List.getElem?_cons_succ]
    refine ⟨?_, ?_⟩
    · as_aux_lemma =>
      intro y_ hS_ hO_ hD
      clear hS_ hO_ hD
      refine s_gen (V := .bool true) [.bool true] (by kernel_rfl) (by kernel_rfl) (by kernel_rfl) ?_
      intro r_ hr_
      have o0_ : r_ (.tmp 8) = .bool true := op_at hr_ 0 (by kernel_rfl) (by kernel_rfl)
      clear hr_
      go_simp; first | done | with_reducible rfl | omega
    simp only [Act.put, planVG, List.setIfInBounds_toArray, List.set_cons_zero, List.set_cons_succ, List.getElem?_cons_zero, List.getElem?_cons_succ]
    refine ⟨?_, ?_⟩
    · as_aux_lemma =>
      intro y_ hS_ hO_ hD
      clear hS_ hO_ hD
      refine s_gen (V := .bool true) [.bool true] (by kernel_rfl) (by kernel_rfl) (by kernel_rfl) ?_
      intro r_ hr_
      have o0_ : r_ (.tmp 13) = .bool true := op_at hr_ 0 (by kernel_rfl) (by kernel_rfl)
      clear hr_
      go_simp; first | done | with_reducible rfl | omega
    simp only [Act.put, planVG, List.setIfInBounds_toArray, List.set_cons_zero, List.set_cons_succ, List.getElem?_cons_zero, List.getElem?_cons_succ]
    refine ⟨?_, ?_⟩
    · as_aux_lemma =>
      intro y_ hS_ hO_ hD
      clear hS_ hO_ hD
      refine s_gen (V := .bool true) [.bool true, .bool true] (by kernel_rfl) (by kernel_rfl) (by kernel_rfl) ?_
      intro r_ hr_
      have o0_ : r_ (.tmp 63) = .bool true := op_at hr_ 0 (by kernel_rfl) (by kernel_rfl)
      have o1_ : r_ (.tmp 64) = .bool true := op_at hr_ 1 (by kernel_rfl) (by kernel_rfl)
      clear hr_
      go_simp; first | done | with_reducible rfl | omega
    simp only [Act.put, planVG, List.setIfInBounds_toArray, List.set_cons_zero, List.set_cons_succ, List.getElem?_cons_zero, List.getElem?_cons_succ]
    refine ⟨?_, ?_⟩
    · as_aux_lemma =>
      intro y_ hS_ hO_ hD
      clear hS_ hO_ hD
      refine s_gen (V := .bool true) [.bool true, .bool true, .bool false] (by kernel_rfl) (by kernel_rfl) (by kernel_rfl) ?_
      intro r_ hr_
      have o0_ : r_ (.tmp 62) = .bool true := op_at hr_ 0 (by kernel_rfl) (by kernel_rfl)
      have o1_ : r_ (.tmp 65) = .bool true := op_at hr_ 1 (by kernel_rfl) (by kernel_rfl)
      have o2_ : r_ (.const (.bool false)) = .bool false := op_at hr_ 2 (by kernel_rfl) (by kernel_rfl)
      clear hr_
      go_simp; first | done | with_reducible rfl | omega
    simp only [Act.put, planVG, List.setIfInBounds_toArray, List.set_cons_zero, List.set_cons_succ, List.getElem?_cons_zero, List.getElem?_cons_succ]
    refine ⟨?_, ?_⟩
    · as_aux_lemma =>
      intro y_ hS_ hO_ hD
      clear hS_ hO_ hD
      refine s_gen (V := .bool true) [.bool true] (by kernel_rfl) (by kernel_rfl) (by kernel_rfl) ?_
      intro r_ hr_
      have o0_ : r_ (.tmp 66) = .bool true := op_at hr_ 0 (by kernel_rfl) (by kernel_rfl)
      clear hr_
      go_simp; first | done | with_reducible rfl | omega
    simp only [Act.put, planVG, List.setIfInBounds_toArray, List.set_cons_zero, List.set_cons_succ, List.getElem?_cons_zero, List.getElem?_cons_succ]
    refine ⟨?_, ?_⟩
    · as_aux_lemma =>
      intro y_ hS_ hO_ hD
      try clear hS
      clear hS_ hO_ hD
      refine s_gcall (V := .bool true) [.func (.func 32) #[] #[]] ?_ ?_ (by kernel_rfl) (by kernel_rfl) (by kernel_rfl) ?_ ?_
      rotate_left 2
      · intro r_ hr_
        have o0_ : r_ (.func 32) = .func (.func 32) #[] #[] := op_at hr_ 0 (by kernel_rfl) (by kernel_rfl)
        clear hr_
        go_simp; first | done | with_reducible rfl | (constructor <;> with_reducible rfl)
      · refine counts01_any _
    simp only [Act.put, planVG, List.setIfInBounds_toArray, List.set_cons_zero, List.set_cons_succ, List.getElem?_cons_zero, List.getElem?_cons_succ]
    refine ⟨?_, ?_⟩
    · as_aux_lemma =>
      intro y_ hS_ hO_ hD
      clear hS_ hO_ hD
      refine s_gen (V := .bool true) [.bool true, .bool true, .bool false] (by kernel_rfl) (by kernel_rfl) (by kernel_rfl) ?_
      intro r_ hr_
      have o0_ : r_ (.tmp 67) = .bool true := op_at hr_ 0 (by kernel_rfl) (by kernel_rfl)
      have o1_ : r_ (.tmp 68) = .bool true := op_at hr_ 1 (by kernel_rfl) (by kernel_rfl)
      have o2_ : r_ (.const (.bool false)) = .bool false := op_at hr_ 2 (by kernel_rfl) (by kernel_rfl)
      clear hr_
      go_simp; first | done | with_reducible rfl | omega
    simp only [Act.put, planVG, List.setIfInBounds_toArray, List.set_cons_zero, List.set_cons_succ, List.getElem?_cons_zero, List.getElem?_cons_succ]
    refine ⟨?_, ?_⟩
    · as_aux_lemma =>
      intro y_ hS_ hO_ hD
      clear hS_ hO_ hD
      refine s_gen (V := .bool true) [.bool true] (by kernel_rfl) (by kernel_rfl) (by kernel_rfl) ?_
      intro r_ hr_
      have o0_ : r_ (.tmp 69) = .bool true := op_at hr_ 0 (by kernel_rfl) (by kernel_rfl)
      clear hr_
      go_simp; first | done | with_reducible rfl | omega
    simp only [Act.put, planVG, List.setIfInBounds_toArray, List.set_cons_zero, List.set_cons_succ, List.getElem?_cons_zero, List.getElem?_cons_succ]
    as_aux_lemma =>
      intro w8 hS hF hD_
      change wpList _ _ _ _ _ _
      replace hS := sg_no (by decide) hS
      obtain ⟨hk, hZ8, X3, X4, N4, N5, N6, N7⟩ := hS
      have M1 : IsN w8 (ρ 1) (A + B) := hF 1 (by decide)
      have M6 : IsN w8 (ρ 6) (A + B) := hF 6 (by decide)
      have M7 : IsN w8 (ρ 7) (Z) := hF 7 (by decide)
      have M14 : IsN w8 (ρ 14) (A + Z) := hF 14 (by decide)
      have M15 : IsN w8 (ρ 15) (B) := hF 15 (by decide)
      have M16 : IsN w8 (ρ 16) ((A + Z) - B) := hF 16 (by decide)
      clear hF hD_
      generalize ρ 1 = u8_1 at *
      generalize ρ 6 = u8_6 at *
      generalize ρ 7 = u8_7 at *
      generalize ρ 14 = u8_14 at *
      generalize ρ 15 = u8_15 at *
      generalize ρ 16 = u8_16 at *
      clear ρ
      have hz_w8 := hk.size
      have X3l := X3.lt
      have X3f := X3.free
      have X3l1 : w1.heap.size < w8.heap.size + 1 := by omega
      have X3l2 : w1.heap.size < w8.heap.size + 1 + 1 := by omega
      have X3l3 : w1.heap.size < w8.heap.size + 1 + 1 + 1 := by omega
      have X30 := X3.cell 0 _ rfl
      have X31 := X3.cell 1 _ rfl
      have X4l := X4.lt
      have X4f := X4.free
      have X4l1 : w2.heap.size < w8.heap.size + 1 := by omega
      have X4l2 : w2.heap.size < w8.heap.size + 1 + 1 := by omega
      have X4l3 : w2.heap.size < w8.heap.size + 1 + 1 + 1 := by omega
      have X40 := X4.cell 0 _ rfl
      have X41 := X4.cell 1 _ rfl
      clear M1
      clear M6
      clear M7
      clear M14
      clear M15
      clear M16
      go_wp2
      go_ret
      exact ⟨rfl, (by refine Kept.below ?_; repeat (first | with_reducible exact hk | with_reducible exact Kept.refl _ | with_reducible refine Kept.alloc ?_ _ | with_reducible refine Kept.drew ?_ | with_reducible refine Kept.setCell ?_ (by simp only [World.size_alloc, World.size_setCell, World.size_drew]; omega) _))⟩

set_option maxRecDepth 100000 in
set_option maxHeartbeats 8000000 in
theorem WordSums_11 {A B S D : Nat} (hA : W128 A) (hB : W128 B) (hS : W128 S) (hD : W128 D) (eS : add128 A B = S) (eD : sub128 A B = D) (h : A < B) (hc : carry128 A B = true) (w : World) :
    Calls Try.prog 4 #[bitsV A, bitsV B] w fun e w' => e = .returned (.bool true) ∧ Below w.heap.size w w' := by
  have hk := Kept.refl w
  obtain ⟨Z, hZ⟩ : ∃ Z : Nat, 2 ^ 128 = Z := ⟨_, rfl⟩
  have hA2 := hA.lt
  have hB2 := hB.lt
  have HE1 := Lib.hid (show bitsV (A + B) = bitsV S by rw [← eS]; exact bits_mod (by unfold add128; omega))
  have HE2 := Lib.hid (show bitsV ((A + Z) - B) = bitsV D by rw [← eD]; exact bits_mod (by unfold sub128; omega))
  have HLE := Lib.hid (show B ≤ (A + Z) by omega)
  have c1 : cmpN A B < 0 := by rw [cmp_neg]; omega
  have c0 : decide (cmpN A B < 0) = true := decide_eq_true c1
  have c2 : ¬ cmpN (A + B) Z < 0 := by
    rw [cmp_neg]
    have := of_decide_eq_true hc
    omega
  have HC := Lib.hid hc
  have HB := Lib.hid (show ltB A B = true from decide_eq_true h)
  have lenZ : lenN Z ≤ 5 := lenN_le 5 Z (by omega)
  have la := len128 hA
  have lb := len128 hB
  have ls : lenN (A + B) ≤ 5 := lenN_le 5 _ (by omega)
  have ln : lenN (A + Z) ≤ 5 := lenN_le 5 _ (by omega)
  have lm : lenN ((A + Z) - B) ≤ 5 := lenN_le 5 _ (by omega)
  have HF := Lib.hid hZ
  have HS := Lib.hid eS; have HD := Lib.hid eD
  clear hZ hA2 hB2 eS eD
  clear h hc
  go_enter Try.func4, Try.ntmps4
  go_wp2_with fail
  (with_reducible refine (calls_to (V := .tuple #[bitsV S, .bool true]) (Add_at (IsBits.of hA) (IsBits.of hB) _) (by rw [HS.out, HC.out])).mono ?_)
  rintro e w1 ⟨rfl, hb⟩
  have X1' : Box w1 (w.heap.size) #[.int .u64 (limb 1 A), .int .u64 (limb 0 A)] := Box.call hb (by repeat (first | with_reducible assumption | with_reducible apply Box.set10 | with_reducible apply Box.set20 | with_reducible apply Box.set21 | with_reducible apply Box.set40 | with_reducible apply Box.set41 | with_reducible apply Box.set42 | with_reducible apply Box.set43 | with_reducible apply Box.set50 | with_reducible apply Box.set51 | with_reducible apply Box.set52 | with_reducible apply Box.set53 | with_reducible apply Box.set54 | with_reducible apply Box.drew | (with_reducible apply Box.newAt; (try simp only [World.size_alloc, World.size_setCell, World.size_drew]); done) | with_reducible apply Box.alloc | (with_reducible apply Box.other; case hne => ((try simp only [World.size_alloc, World.size_setCell, World.size_drew]); omega))))
  have X2' : Box w1 (w.heap.size + 1) #[.int .u64 (limb 1 B), .int .u64 (limb 0 B)] := Box.call hb (by repeat (first | with_reducible assumption | with_reducible apply Box.set10 | with_reducible apply Box.set20 | with_reducible apply Box.set21 | with_reducible apply Box.set40 | with_reducible apply Box.set41 | with_reducible apply Box.set42 | with_reducible apply Box.set43 | with_reducible apply Box.set50 | with_reducible apply Box.set51 | with_reducible apply Box.set52 | with_reducible apply Box.set53 | with_reducible apply Box.set54 | with_reducible apply Box.drew | (with_reducible apply Box.newAt; (try simp only [World.size_alloc, World.size_setCell, World.size_drew]); done) | with_reducible apply Box.alloc | (with_reducible apply Box.other; case hne => ((try simp only [World.size_alloc, World.size_setCell, World.size_drew]); omega))))
  have hk' : Kept w.heap.size w w1 := Kept.step (by repeat (first | with_reducible exact hk | with_reducible exact Kept.refl _ | with_reducible refine Kept.alloc ?_ _ | with_reducible refine Kept.drew ?_ | with_reducible refine Kept.setCell ?_ (by simp only [World.size_alloc, World.size_setCell, World.size_drew]; omega) _)) hb
  clear hk hb
  have X1 := X1'
  clear X1'
  have X2 := X2'
  clear X2'
  have hk := hk'
  clear hk'
  have hz_w1 := hk.size
  have X1l := X1.lt
  have X1f := X1.free
  have X1l1 : w.heap.size < w1.heap.size + 1 := by omega
  have X1l2 : w.heap.size < w1.heap.size + 1 + 1 := by omega
  have X1l3 : w.heap.size < w1.heap.size + 1 + 1 + 1 := by omega
  have X10 := X1.cell 0 _ rfl
  have X11 := X1.cell 1 _ rfl
  have X2l := X2.lt
  have X2f := X2.free
  have X2l1 : w.heap.size + 1 < w1.heap.size + 1 := by omega
  have X2l2 : w.heap.size + 1 < w1.heap.size + 1 + 1 := by omega
  have X2l3 : w.heap.size + 1 < w1.heap.size + 1 + 1 + 1 := by omega
  have X20 := X2.cell 0 _ rfl
  have X21 := X2.cell 1 _ rfl
  go_wp2_with fail
  (with_reducible refine (calls_to (V := .tuple #[bitsV D, .bool true]) (Sub_at (IsBits.of hA) (IsBits.of hB) _) (by rw [HD.out, HB.out])).mono ?_)
  rintro e w2 ⟨rfl, hb⟩
  have X1' : Box w2 (w.heap.size) #[.int .u64 (limb 1 A), .int .u64 (limb 0 A)] := Box.call hb (by repeat (first | with_reducible assumption | with_reducible apply Box.set10 | with_reducible apply Box.set20 | with_reducible apply Box.set21 | with_reducible apply Box.set40 | with_reducible apply Box.set41 | with_reducible apply Box.set42 | with_reducible apply Box.set43 | with_reducible apply Box.set50 | with_reducible apply Box.set51 | with_reducible apply Box.set52 | with_reducible apply Box.set53 | with_reducible apply Box.set54 | with_reducible apply Box.drew | (with_reducible apply Box.newAt; (try simp only [World.size_alloc, World.size_setCell, World.size_drew]); done) | with_reducible apply Box.alloc | (with_reducible apply Box.other; case hne => ((try simp only [World.size_alloc, World.size_setCell, World.size_drew]); omega))))
  have X2' : Box w2 (w.heap.size + 1) #[.int .u64 (limb 1 B), .int .u64 (limb 0 B)] := Box.call hb (by repeat (first | with_reducible assumption | with_reducible apply Box.set10 | with_reducible apply Box.set20 | with_reducible apply Box.set21 | with_reducible apply Box.set40 | with_reducible apply Box.set41 | with_reducible apply Box.set42 | with_reducible apply Box.set43 | with_reducible apply Box.set50 | with_reducible apply Box.set51 | with_reducible apply Box.set52 | with_reducible apply Box.set53 | with_reducible apply Box.set54 | with_reducible apply Box.drew | (with_reducible apply Box.newAt; (try simp only [World.size_alloc, World.size_setCell, World.size_drew]); done) | with_reducible apply Box.alloc | (with_reducible apply Box.other; case hne => ((try simp only [World.size_alloc, World.size_setCell, World.size_drew]); omega))))
  have X3' : Box w2 (w1.heap.size) #[.int .u64 (limb 1 S), .int .u64 (limb 0 S)] := Box.call hb (by repeat (first | with_reducible assumption | with_reducible apply Box.set10 | with_reducible apply Box.set20 | with_reducible apply Box.set21 | with_reducible apply Box.set40 | with_reducible apply Box.set41 | with_reducible apply Box.set42 | with_reducible apply Box.set43 | with_reducible apply Box.set50 | with_reducible apply Box.set51 | with_reducible apply Box.set52 | with_reducible apply Box.set53 | with_reducible apply Box.set54 | with_reducible apply Box.drew | (with_reducible apply Box.newAt; (try simp only [World.size_alloc, World.size_setCell, World.size_drew]); done) | with_reducible apply Box.alloc | (with_reducible apply Box.other; case hne => ((try simp only [World.size_alloc, World.size_setCell, World.size_drew]); omega))))
  have hk' : Kept w.heap.size w w2 := Kept.step (by repeat (first | with_reducible exact hk | with_reducible exact Kept.refl _ | with_reducible refine Kept.alloc ?_ _ | with_reducible refine Kept.drew ?_ | with_reducible refine Kept.setCell ?_ (by simp only [World.size_alloc, World.size_setCell, World.size_drew]; omega) _)) hb
  clear hk hb
  clear X1 X1l1 X1l2 X1l3 X1f X10 X11
  clear X2 X2l1 X2l2 X2l3 X2f X20 X21
  have X1 := X1'
  clear X1'
  have X2 := X2'
  clear X2'
  have X3 := X3'
  clear X3'
  have hk := hk'
  clear hk'
  have hz_w2 := hk.size
  have X1l := X1.lt
  have X1f := X1.free
  have X1l1 : w.heap.size < w2.heap.size + 1 := by omega
  have X1l2 : w.heap.size < w2.heap.size + 1 + 1 := by omega
  have X1l3 : w.heap.size < w2.heap.size + 1 + 1 + 1 := by omega
  have X10 := X1.cell 0 _ rfl
  have X11 := X1.cell 1 _ rfl
  have X2l := X2.lt
  have X2f := X2.free
  have X2l1 : w.heap.size + 1 < w2.heap.size + 1 := by omega
  have X2l2 : w.heap.size + 1 < w2.heap.size + 1 + 1 := by omega
  have X2l3 : w.heap.size + 1 < w2.heap.size + 1 + 1 + 1 := by omega
  have X20 := X2.cell 0 _ rfl
  have X21 := X2.cell 1 _ rfl
  have X3l := X3.lt
  have X3f := X3.free
  have X3l1 : w1.heap.size < w2.heap.size + 1 := by omega
  have X3l2 : w1.heap.size < w2.heap.size + 1 + 1 := by omega
  have X3l3 : w1.heap.size < w2.heap.size + 1 + 1 + 1 := by omega
  have X30 := X3.cell 0 _ rfl
  have X31 := X3.cell 1 _ rfl
  go_wp2
  refine wp_region_g 6 (fun W' => Kept w.heap.size w W' ∧ w2.heap.size + 1 ≤ W'.heap.size ∧ Box W' (w.heap.size) #[.int .u64 (limb 1 A), .int .u64 (limb 0 A)] ∧ Box W' (w.heap.size + 1) #[.int .u64 (limb 1 B), .int .u64 (limb 0 B)] ∧ Box W' (w1.heap.size) #[.int .u64 (limb 1 S), .int .u64 (limb 0 S)] ∧ Box W' (w2.heap.size) #[.int .u64 (limb 1 D), .int .u64 (limb 0 D)]) (fun W' => Kept w.heap.size w W' ∧ w2.heap.size + 1 ≤ W'.heap.size ∧ Box W' (w.heap.size) #[.int .u64 (limb 1 A), .int .u64 (limb 0 A)] ∧ Box W' (w.heap.size + 1) #[.int .u64 (limb 1 B), .int .u64 (limb 0 B)] ∧ Box W' (w1.heap.size) #[.int .u64 (limb 1 S), .int .u64 (limb 0 S)] ∧ Box W' (w2.heap.size) #[.int .u64 (limb 1 D), .int .u64 (limb 0 D)]) 1000 (w2.heap.size + 1) [.known (bitsV A), .num (A), .known (bitsV B), .num (B), .num (A), .num (B)] (by kernel_rfl) (by kernel_rfl) (fun W W' h hb => ⟨h.1.step hb, Nat.le_trans (h.2.1) hb.size, Box.call hb (h.2.2.1), Box.call hb (h.2.2.2.1), Box.call hb (h.2.2.2.2.1), Box.call hb (h.2.2.2.2.2)⟩) (fun W W' h hb => ⟨h.1.step hb, Nat.le_trans (h.2.1) hb.size, Box.call hb (h.2.2.1), Box.call hb (h.2.2.2.1), Box.call hb (h.2.2.2.2.1), Box.call hb (h.2.2.2.2.2)⟩) (no_out (of_decide_eq_true (by kernel_rfl))) (.inl (by kernel_rfl)) (.inl (by kernel_rfl)) (fun _ h => h.2.1) (fun _ h => h.2.1) (⟨(by repeat (first | with_reducible exact hk | with_reducible exact Kept.refl _ | with_reducible refine Kept.alloc ?_ _ | with_reducible refine Kept.drew ?_ | with_reducible refine Kept.setCell ?_ (by simp only [World.size_alloc, World.size_setCell, World.size_drew]; omega) _)), (by (try simp only [World.size_alloc, World.size_setCell, World.size_drew]); omega), (by repeat (first | with_reducible assumption | with_reducible apply Box.set10 | with_reducible apply Box.set20 | with_reducible apply Box.set21 | with_reducible apply Box.set40 | with_reducible apply Box.set41 | with_reducible apply Box.set42 | with_reducible apply Box.set43 | with_reducible apply Box.set50 | with_reducible apply Box.set51 | with_reducible apply Box.set52 | with_reducible apply Box.set53 | with_reducible apply Box.set54 | with_reducible apply Box.drew | (with_reducible apply Box.newAt; (try simp only [World.size_alloc, World.size_setCell, World.size_drew]); done) | with_reducible apply Box.alloc | (with_reducible apply Box.other; case hne => ((try simp only [World.size_alloc, World.size_setCell, World.size_drew]); omega)))), (by repeat (first | with_reducible assumption | with_reducible apply Box.set10 | with_reducible apply Box.set20 | with_reducible apply Box.set21 | with_reducible apply Box.set40 | with_reducible apply Box.set41 | with_reducible apply Box.set42 | with_reducible apply Box.set43 | with_reducible apply Box.set50 | with_reducible apply Box.set51 | with_reducible apply Box.set52 | with_reducible apply Box.set53 | with_reducible apply Box.set54 | with_reducible apply Box.drew | (with_reducible apply Box.newAt; (try simp only [World.size_alloc, World.size_setCell, World.size_drew]); done) | with_reducible apply Box.alloc | (with_reducible apply Box.other; case hne => ((try simp only [World.size_alloc, World.size_setCell, World.size_drew]); omega)))), (by repeat (first | with_reducible assumption | with_reducible apply Box.set10 | with_reducible apply Box.set20 | with_reducible apply Box.set21 | with_reducible apply Box.set40 | with_reducible apply Box.set41 | with_reducible apply Box.set42 | with_reducible apply Box.set43 | with_reducible apply Box.set50 | with_reducible apply Box.set51 | with_reducible apply Box.set52 | with_reducible apply Box.set53 | with_reducible apply Box.set54 | with_reducible apply Box.drew | (with_reducible apply Box.newAt; (try simp only [World.size_alloc, World.size_setCell, World.size_drew]); done) | with_reducible apply Box.alloc | (with_reducible apply Box.other; case hne => ((try simp only [World.size_alloc, World.size_setCell, World.size_drew]); omega)))), (by repeat (first | with_reducible assumption | with_reducible apply Box.set10 | with_reducible apply Box.set20 | with_reducible apply Box.set21 | with_reducible apply Box.set40 | with_reducible apply Box.set41 | with_reducible apply Box.set42 | with_reducible apply Box.set43 | with_reducible apply Box.set50 | with_reducible apply Box.set51 | with_reducible apply Box.set52 | with_reducible apply Box.set53 | with_reducible apply Box.set54 | with_reducible apply Box.drew | (with_reducible apply Box.newAt; (try simp only [World.size_alloc, World.size_setCell, World.size_drew]); done) | with_reducible apply Box.alloc | (with_reducible apply Box.other; case hne => ((try simp only [World.size_alloc, World.size_setCell, World.size_drew]); omega))))⟩) ?_
  clear hk
  clear X1 X1l1 X1l2 X1l3 X1f X10 X11
  clear X2 X2l1 X2l2 X2l3 X2f X20 X21
  clear X3 X3l1 X3l2 X3l3 X3f X30 X31
  intro ρ
  simp only [List.take_succ_cons, List.take_zero, List.drop_succ_cons, List.drop_zero]
  refine ⟨?_, ?_⟩
  · as_aux_lemma =>
    intro y_ hS_ hO_ hD
    have Q := ((hS_ (by rfl)).2.2.1).cell
    have q0 := Q 0 _ rfl
    have q1 := Q 1 _ rfl
    clear Q hS_ hO_ hD
    refine s_gen (V := bitsV A) [.pointer (some ⟨w.heap.size, 0, none⟩)] (by kernel_rfl) (by kernel_rfl) (by kernel_rfl) ?_
    intro r_ hr_
    have o0_ : r_ (.tmp 2) = .pointer (some ⟨w.heap.size, 0, none⟩) := op_at hr_ 0 (by kernel_rfl) (by kernel_rfl)
    clear hr_
    go_simp; first | done | with_reducible rfl
  simp only [Act.put, planVG, List.setIfInBounds_toArray, List.set_cons_zero, List.set_cons_succ, List.getElem?_cons_zero, List.getElem?_cons_succ]
  refine ⟨?_, ?_⟩
  · as_aux_lemma =>
    intro y_ hS_ hO_ hD
    try clear hS
    clear hS_ hO_ hD
    refine s_gcallN (A := A) [.func (.func 16) #[] #[], bitsV A] ?_ ?_ (by kernel_rfl) (by kernel_rfl) (by kernel_rfl) ?_ ?_
    rotate_left 2
    · intro r_ hr_
      have o0_ : r_ (.func 16) = .func (.func 16) #[] #[] := op_at hr_ 0 (by kernel_rfl) (by kernel_rfl)
      have o1_ : r_ (.tmp 26) = bitsV A := op_at hr_ 1 (by kernel_rfl) (by kernel_rfl)
      clear hr_
      go_simp; first | done | with_reducible rfl | (constructor <;> with_reducible rfl)
    · refine Big_any (IsBits.of hA).w _
  simp only [Act.put, planVG, List.setIfInBounds_toArray, List.set_cons_zero, List.set_cons_succ, List.getElem?_cons_zero, List.getElem?_cons_succ]
  refine ⟨?_, ?_⟩
  · as_aux_lemma =>
    intro y_ hS_ hO_ hD
    have Q := ((hS_ (by rfl)).2.2.2.1).cell
    have q0 := Q 0 _ rfl
    have q1 := Q 1 _ rfl
    clear Q hS_ hO_ hD
    refine s_gen (V := bitsV B) [.pointer (some ⟨w.heap.size + 1, 0, none⟩)] (by kernel_rfl) (by kernel_rfl) (by kernel_rfl) ?_
    intro r_ hr_
    have o0_ : r_ (.tmp 3) = .pointer (some ⟨w.heap.size + 1, 0, none⟩) := op_at hr_ 0 (by kernel_rfl) (by kernel_rfl)
    clear hr_
    go_simp; first | done | with_reducible rfl
  simp only [Act.put, planVG, List.setIfInBounds_toArray, List.set_cons_zero, List.set_cons_succ, List.getElem?_cons_zero, List.getElem?_cons_succ]
  refine ⟨?_, ?_⟩
  · as_aux_lemma =>
    intro y_ hS_ hO_ hD
    try clear hS
    clear hS_ hO_ hD
    refine s_gcallN (A := B) [.func (.func 16) #[] #[], bitsV B] ?_ ?_ (by kernel_rfl) (by kernel_rfl) (by kernel_rfl) ?_ ?_
    rotate_left 2
    · intro r_ hr_
      have o0_ : r_ (.func 16) = .func (.func 16) #[] #[] := op_at hr_ 0 (by kernel_rfl) (by kernel_rfl)
      have o1_ : r_ (.tmp 28) = bitsV B := op_at hr_ 1 (by kernel_rfl) (by kernel_rfl)
      clear hr_
      go_simp; first | done | with_reducible rfl | (constructor <;> with_reducible rfl)
    · refine Big_any (IsBits.of hB).w _
  simp only [Act.put, planVG, List.setIfInBounds_toArray, List.set_cons_zero, List.set_cons_succ, List.getElem?_cons_zero, List.getElem?_cons_succ]
  refine ⟨?_, ?_⟩
  · as_aux_lemma =>
    intro y_ hS_ hO_ hD
    have hS := hS_ (by rfl)
    have n_ : IsN y_ (ρ 1) (A) := hD 1 (by decide) (by rfl)
    clear hS hS_ hO_ hD
    exact s_num (by rfl) (by rfl) (by rfl) n_
  simp only [Act.put, planVG, List.setIfInBounds_toArray, List.set_cons_zero, List.set_cons_succ, List.getElem?_cons_zero, List.getElem?_cons_succ]
  refine ⟨?_, ?_⟩
  · as_aux_lemma =>
    intro y_ hS_ hO_ hD
    have hS := hS_ (by rfl)
    have n_ : IsN y_ (ρ 3) (B) := hD 3 (by decide) (by rfl)
    clear hS hS_ hO_ hD
    exact s_num (by rfl) (by rfl) (by rfl) n_
  simp only [Act.put, planVG, List.setIfInBounds_toArray, List.set_cons_zero, List.set_cons_succ, List.getElem?_cons_zero, List.getElem?_cons_succ]
  as_aux_lemma =>
    intro w3 hS hF hD_
    change wpList _ _ _ _ _ _
    replace hS := sg_no (by decide) hS
    obtain ⟨hk, hZ3, X1, X2, X3, X4⟩ := hS
    have M1 : IsN w3 (ρ 1) (A) := hF 1 (by decide)
    have M3 : IsN w3 (ρ 3) (B) := hF 3 (by decide)
    have M4 : IsN w3 (ρ 4) (A) := hF 4 (by decide)
    have M5 : IsN w3 (ρ 5) (B) := hF 5 (by decide)
    clear hF hD_
    generalize ρ 1 = u3_1 at *
    generalize ρ 3 = u3_3 at *
    generalize ρ 4 = u3_4 at *
    generalize ρ 5 = u3_5 at *
    clear ρ
    have hz_w3 := hk.size
    have X1l := X1.lt
    have X1f := X1.free
    have X1l1 : w.heap.size < w3.heap.size + 1 := by omega
    have X1l2 : w.heap.size < w3.heap.size + 1 + 1 := by omega
    have X1l3 : w.heap.size < w3.heap.size + 1 + 1 + 1 := by omega
    have X10 := X1.cell 0 _ rfl
    have X11 := X1.cell 1 _ rfl
    have X2l := X2.lt
    have X2f := X2.free
    have X2l1 : w.heap.size + 1 < w3.heap.size + 1 := by omega
    have X2l2 : w.heap.size + 1 < w3.heap.size + 1 + 1 := by omega
    have X2l3 : w.heap.size + 1 < w3.heap.size + 1 + 1 + 1 := by omega
    have X20 := X2.cell 0 _ rfl
    have X21 := X2.cell 1 _ rfl
    have X3l := X3.lt
    have X3f := X3.free
    have X3l1 : w1.heap.size < w3.heap.size + 1 := by omega
    have X3l2 : w1.heap.size < w3.heap.size + 1 + 1 := by omega
    have X3l3 : w1.heap.size < w3.heap.size + 1 + 1 + 1 := by omega
    have X30 := X3.cell 0 _ rfl
    have X31 := X3.cell 1 _ rfl
    have X4l := X4.lt
    have X4f := X4.free
    have X4l1 : w2.heap.size < w3.heap.size + 1 := by omega
    have X4l2 : w2.heap.size < w3.heap.size + 1 + 1 := by omega
    have X4l3 : w2.heap.size < w3.heap.size + 1 + 1 + 1 := by omega
    have X40 := X4.cell 0 _ rfl
    have X41 := X4.cell 1 _ rfl
    clear M1
    clear M3
    have N3 := M4
    clear M4
    have N4 := M5
    clear M5
    go_wp2_with fail
    (with_reducible refine (refAdd_any _ (IsN.kept N3 (by repeat (first | with_reducible exact Kept.refl _ | with_reducible refine Kept.alloc ?_ _ | with_reducible refine Kept.drew ?_ | with_reducible refine Kept.setCell ?_ (by simp only [World.size_alloc, World.size_setCell, World.size_drew]; omega) _))) (IsN.kept N4 (by repeat (first | with_reducible exact Kept.refl _ | with_reducible refine Kept.alloc ?_ _ | with_reducible refine Kept.drew ?_ | with_reducible refine Kept.setCell ?_ (by simp only [World.size_alloc, World.size_setCell, World.size_drew]; omega) _))) (by omega) (by omega)).mono ?_)
    rintro e w4 ⟨vN5, rfl, N5_, hb⟩
    have X3' : Box w4 (w1.heap.size) #[.int .u64 (limb 1 S), .int .u64 (limb 0 S)] := Box.call hb (by repeat (first | with_reducible assumption | with_reducible apply Box.set10 | with_reducible apply Box.set20 | with_reducible apply Box.set21 | with_reducible apply Box.set40 | with_reducible apply Box.set41 | with_reducible apply Box.set42 | with_reducible apply Box.set43 | with_reducible apply Box.set50 | with_reducible apply Box.set51 | with_reducible apply Box.set52 | with_reducible apply Box.set53 | with_reducible apply Box.set54 | with_reducible apply Box.drew | (with_reducible apply Box.newAt; (try simp only [World.size_alloc, World.size_setCell, World.size_drew]); done) | with_reducible apply Box.alloc | (with_reducible apply Box.other; case hne => ((try simp only [World.size_alloc, World.size_setCell, World.size_drew]); omega))))
    have X4' : Box w4 (w2.heap.size) #[.int .u64 (limb 1 D), .int .u64 (limb 0 D)] := Box.call hb (by repeat (first | with_reducible assumption | with_reducible apply Box.set10 | with_reducible apply Box.set20 | with_reducible apply Box.set21 | with_reducible apply Box.set40 | with_reducible apply Box.set41 | with_reducible apply Box.set42 | with_reducible apply Box.set43 | with_reducible apply Box.set50 | with_reducible apply Box.set51 | with_reducible apply Box.set52 | with_reducible apply Box.set53 | with_reducible apply Box.set54 | with_reducible apply Box.drew | (with_reducible apply Box.newAt; (try simp only [World.size_alloc, World.size_setCell, World.size_drew]); done) | with_reducible apply Box.alloc | (with_reducible apply Box.other; case hne => ((try simp only [World.size_alloc, World.size_setCell, World.size_drew]); omega))))
    have N3' : IsN w4 u3_4 (A) := (IsN.kept N3 (by repeat (first | with_reducible exact Kept.refl _ | with_reducible refine Kept.alloc ?_ _ | with_reducible refine Kept.drew ?_ | with_reducible refine Kept.setCell ?_ (by simp only [World.size_alloc, World.size_setCell, World.size_drew]; omega) _))).call hb
    have N4' : IsN w4 u3_5 (B) := (IsN.kept N4 (by repeat (first | with_reducible exact Kept.refl _ | with_reducible refine Kept.alloc ?_ _ | with_reducible refine Kept.drew ?_ | with_reducible refine Kept.setCell ?_ (by simp only [World.size_alloc, World.size_setCell, World.size_drew]; omega) _))).call hb
    have hk' : Kept w.heap.size w w4 := Kept.step (by repeat (first | with_reducible exact hk | with_reducible exact Kept.refl _ | with_reducible refine Kept.alloc ?_ _ | with_reducible refine Kept.drew ?_ | with_reducible refine Kept.setCell ?_ (by simp only [World.size_alloc, World.size_setCell, World.size_drew]; omega) _)) hb
    clear hk hb
    clear X1 X1l1 X1l2 X1l3 X1f X10 X11
    clear X2 X2l1 X2l2 X2l3 X2f X20 X21
    clear X3 X3l1 X3l2 X3l3 X3f X30 X31
    clear X4 X4l1 X4l2 X4l3 X4f X40 X41
    have X3 := X3'
    clear X3'
    have X4 := X4'
    clear X4'
    clear N3
    have N3 := N3'
    clear N3'
    clear N4
    have N4 := N4'
    clear N4'
    have hk := hk'
    clear hk'
    have hz_w4 := hk.size
    have X3l := X3.lt
    have X3f := X3.free
    have X3l1 : w1.heap.size < w4.heap.size + 1 := by omega
    have X3l2 : w1.heap.size < w4.heap.size + 1 + 1 := by omega
    have X3l3 : w1.heap.size < w4.heap.size + 1 + 1 + 1 := by omega
    have X30 := X3.cell 0 _ rfl
    have X31 := X3.cell 1 _ rfl
    have X4l := X4.lt
    have X4f := X4.free
    have X4l1 : w2.heap.size < w4.heap.size + 1 := by omega
    have X4l2 : w2.heap.size < w4.heap.size + 1 + 1 := by omega
    have X4l3 : w2.heap.size < w4.heap.size + 1 + 1 + 1 := by omega
    have X40 := X4.cell 0 _ rfl
    have X41 := X4.cell 1 _ rfl
    have N5 : IsN w4 vN5 (A + B) := N5_
    clear N5_
    go_wp2_with fail
    (with_reducible refine (refFullF HF.out (by omega) (by omega) _).mono ?_)
    rintro e w5 ⟨vN6, rfl, N6_, hb⟩
    have X3' : Box w5 (w1.heap.size) #[.int .u64 (limb 1 S), .int .u64 (limb 0 S)] := Box.call hb (by repeat (first | with_reducible assumption | with_reducible apply Box.set10 | with_reducible apply Box.set20 | with_reducible apply Box.set21 | with_reducible apply Box.set40 | with_reducible apply Box.set41 | with_reducible apply Box.set42 | with_reducible apply Box.set43 | with_reducible apply Box.set50 | with_reducible apply Box.set51 | with_reducible apply Box.set52 | with_reducible apply Box.set53 | with_reducible apply Box.set54 | with_reducible apply Box.drew | (with_reducible apply Box.newAt; (try simp only [World.size_alloc, World.size_setCell, World.size_drew]); done) | with_reducible apply Box.alloc | (with_reducible apply Box.other; case hne => ((try simp only [World.size_alloc, World.size_setCell, World.size_drew]); omega))))
    have X4' : Box w5 (w2.heap.size) #[.int .u64 (limb 1 D), .int .u64 (limb 0 D)] := Box.call hb (by repeat (first | with_reducible assumption | with_reducible apply Box.set10 | with_reducible apply Box.set20 | with_reducible apply Box.set21 | with_reducible apply Box.set40 | with_reducible apply Box.set41 | with_reducible apply Box.set42 | with_reducible apply Box.set43 | with_reducible apply Box.set50 | with_reducible apply Box.set51 | with_reducible apply Box.set52 | with_reducible apply Box.set53 | with_reducible apply Box.set54 | with_reducible apply Box.drew | (with_reducible apply Box.newAt; (try simp only [World.size_alloc, World.size_setCell, World.size_drew]); done) | with_reducible apply Box.alloc | (with_reducible apply Box.other; case hne => ((try simp only [World.size_alloc, World.size_setCell, World.size_drew]); omega))))
    have N3' : IsN w5 u3_4 (A) := (IsN.kept N3 (by repeat (first | with_reducible exact Kept.refl _ | with_reducible refine Kept.alloc ?_ _ | with_reducible refine Kept.drew ?_ | with_reducible refine Kept.setCell ?_ (by simp only [World.size_alloc, World.size_setCell, World.size_drew]; omega) _))).call hb
    have N4' : IsN w5 u3_5 (B) := (IsN.kept N4 (by repeat (first | with_reducible exact Kept.refl _ | with_reducible refine Kept.alloc ?_ _ | with_reducible refine Kept.drew ?_ | with_reducible refine Kept.setCell ?_ (by simp only [World.size_alloc, World.size_setCell, World.size_drew]; omega) _))).call hb
    have N5' : IsN w5 vN5 (A + B) := (IsN.kept N5 (by repeat (first | with_reducible exact Kept.refl _ | with_reducible refine Kept.alloc ?_ _ | with_reducible refine Kept.drew ?_ | with_reducible refine Kept.setCell ?_ (by simp only [World.size_alloc, World.size_setCell, World.size_drew]; omega) _))).call hb
    have hk' : Kept w.heap.size w w5 := Kept.step (by repeat (first | with_reducible exact hk | with_reducible exact Kept.refl _ | with_reducible refine Kept.alloc ?_ _ | with_reducible refine Kept.drew ?_ | with_reducible refine Kept.setCell ?_ (by simp only [World.size_alloc, World.size_setCell, World.size_drew]; omega) _)) hb
    clear hk hb
    clear X3 X3l1 X3l2 X3l3 X3f X30 X31
    clear X4 X4l1 X4l2 X4l3 X4f X40 X41
    have X3 := X3'
    clear X3'
    have X4 := X4'
    clear X4'
    clear N3
    have N3 := N3'
    clear N3'
    clear N4
    have N4 := N4'
    clear N4'
    clear N5
    have N5 := N5'
    clear N5'
    have hk := hk'
    clear hk'
    have hz_w5 := hk.size
    have X3l := X3.lt
    have X3f := X3.free
    have X3l1 : w1.heap.size < w5.heap.size + 1 := by omega
    have X3l2 : w1.heap.size < w5.heap.size + 1 + 1 := by omega
    have X3l3 : w1.heap.size < w5.heap.size + 1 + 1 + 1 := by omega
    have X30 := X3.cell 0 _ rfl
    have X31 := X3.cell 1 _ rfl
    have X4l := X4.lt
    have X4f := X4.free
    have X4l1 : w2.heap.size < w5.heap.size + 1 := by omega
    have X4l2 : w2.heap.size < w5.heap.size + 1 + 1 := by omega
    have X4l3 : w2.heap.size < w5.heap.size + 1 + 1 + 1 := by omega
    have X40 := X4.cell 0 _ rfl
    have X41 := X4.cell 1 _ rfl
    have N6 : IsN w5 vN6 (Z) := N6_
    clear N6_
    go_wp2_with fail
    (with_reducible refine (refCmp_any _ (IsN.kept N3 (by repeat (first | with_reducible exact Kept.refl _ | with_reducible refine Kept.alloc ?_ _ | with_reducible refine Kept.drew ?_ | with_reducible refine Kept.setCell ?_ (by simp only [World.size_alloc, World.size_setCell, World.size_drew]; omega) _))) (IsN.kept N4 (by repeat (first | with_reducible exact Kept.refl _ | with_reducible refine Kept.alloc ?_ _ | with_reducible refine Kept.drew ?_ | with_reducible refine Kept.setCell ?_ (by simp only [World.size_alloc, World.size_setCell, World.size_drew]; omega) _))) (by omega) (by omega)).mono ?_)
    rintro e w6 ⟨rfl, hb⟩
    have X3' : Box w6 (w1.heap.size) #[.int .u64 (limb 1 S), .int .u64 (limb 0 S)] := Box.call hb (by repeat (first | with_reducible assumption | with_reducible apply Box.set10 | with_reducible apply Box.set20 | with_reducible apply Box.set21 | with_reducible apply Box.set40 | with_reducible apply Box.set41 | with_reducible apply Box.set42 | with_reducible apply Box.set43 | with_reducible apply Box.set50 | with_reducible apply Box.set51 | with_reducible apply Box.set52 | with_reducible apply Box.set53 | with_reducible apply Box.set54 | with_reducible apply Box.drew | (with_reducible apply Box.newAt; (try simp only [World.size_alloc, World.size_setCell, World.size_drew]); done) | with_reducible apply Box.alloc | (with_reducible apply Box.other; case hne => ((try simp only [World.size_alloc, World.size_setCell, World.size_drew]); omega))))
    have X4' : Box w6 (w2.heap.size) #[.int .u64 (limb 1 D), .int .u64 (limb 0 D)] := Box.call hb (by repeat (first | with_reducible assumption | with_reducible apply Box.set10 | with_reducible apply Box.set20 | with_reducible apply Box.set21 | with_reducible apply Box.set40 | with_reducible apply Box.set41 | with_reducible apply Box.set42 | with_reducible apply Box.set43 | with_reducible apply Box.set50 | with_reducible apply Box.set51 | with_reducible apply Box.set52 | with_reducible apply Box.set53 | with_reducible apply Box.set54 | with_reducible apply Box.drew | (with_reducible apply Box.newAt; (try simp only [World.size_alloc, World.size_setCell, World.size_drew]); done) | with_reducible apply Box.alloc | (with_reducible apply Box.other; case hne => ((try simp only [World.size_alloc, World.size_setCell, World.size_drew]); omega))))
    have N3' : IsN w6 u3_4 (A) := (IsN.kept N3 (by repeat (first | with_reducible exact Kept.refl _ | with_reducible refine Kept.alloc ?_ _ | with_reducible refine Kept.drew ?_ | with_reducible refine Kept.setCell ?_ (by simp only [World.size_alloc, World.size_setCell, World.size_drew]; omega) _))).call hb
    have N4' : IsN w6 u3_5 (B) := (IsN.kept N4 (by repeat (first | with_reducible exact Kept.refl _ | with_reducible refine Kept.alloc ?_ _ | with_reducible refine Kept.drew ?_ | with_reducible refine Kept.setCell ?_ (by simp only [World.size_alloc, World.size_setCell, World.size_drew]; omega) _))).call hb
    have N5' : IsN w6 vN5 (A + B) := (IsN.kept N5 (by repeat (first | with_reducible exact Kept.refl _ | with_reducible refine Kept.alloc ?_ _ | with_reducible refine Kept.drew ?_ | with_reducible refine Kept.setCell ?_ (by simp only [World.size_alloc, World.size_setCell, World.size_drew]; omega) _))).call hb
    have N6' : IsN w6 vN6 (Z) := (IsN.kept N6 (by repeat (first | with_reducible exact Kept.refl _ | with_reducible refine Kept.alloc ?_ _ | with_reducible refine Kept.drew ?_ | with_reducible refine Kept.setCell ?_ (by simp only [World.size_alloc, World.size_setCell, World.size_drew]; omega) _))).call hb
    have hk' : Kept w.heap.size w w6 := Kept.step (by repeat (first | with_reducible exact hk | with_reducible exact Kept.refl _ | with_reducible refine Kept.alloc ?_ _ | with_reducible refine Kept.drew ?_ | with_reducible refine Kept.setCell ?_ (by simp only [World.size_alloc, World.size_setCell, World.size_drew]; omega) _)) hb
    clear hk hb
    clear X3 X3l1 X3l2 X3l3 X3f X30 X31
    clear X4 X4l1 X4l2 X4l3 X4f X40 X41
    have X3 := X3'
    clear X3'
    have X4 := X4'
    clear X4'
    clear N3
    have N3 := N3'
    clear N3'
    clear N4
    have N4 := N4'
    clear N4'
    clear N5
    have N5 := N5'
    clear N5'
    clear N6
    have N6 := N6'
    clear N6'
    have hk := hk'
    clear hk'
    have hz_w6 := hk.size
    have X3l := X3.lt
    have X3f := X3.free
    have X3l1 : w1.heap.size < w6.heap.size + 1 := by omega
    have X3l2 : w1.heap.size < w6.heap.size + 1 + 1 := by omega
    have X3l3 : w1.heap.size < w6.heap.size + 1 + 1 + 1 := by omega
    have X30 := X3.cell 0 _ rfl
    have X31 := X3.cell 1 _ rfl
    have X4l := X4.lt
    have X4f := X4.free
    have X4l1 : w2.heap.size < w6.heap.size + 1 := by omega
    have X4l2 : w2.heap.size < w6.heap.size + 1 + 1 := by omega
    have X4l3 : w2.heap.size < w6.heap.size + 1 + 1 + 1 := by omega
    have X40 := X4.cell 0 _ rfl
    have X41 := X4.cell 1 _ rfl
    go_wp2_with fail
    (with_reducible refine (refAdd_any _ (IsN.kept N3 (by repeat (first | with_reducible exact Kept.refl _ | with_reducible refine Kept.alloc ?_ _ | with_reducible refine Kept.drew ?_ | with_reducible refine Kept.setCell ?_ (by simp only [World.size_alloc, World.size_setCell, World.size_drew]; omega) _))) (IsN.kept N6 (by repeat (first | with_reducible exact Kept.refl _ | with_reducible refine Kept.alloc ?_ _ | with_reducible refine Kept.drew ?_ | with_reducible refine Kept.setCell ?_ (by simp only [World.size_alloc, World.size_setCell, World.size_drew]; omega) _))) (by omega) (by omega)).mono ?_)
    rintro e w7 ⟨vN7, rfl, N7_, hb⟩
    have X3' : Box w7 (w1.heap.size) #[.int .u64 (limb 1 S), .int .u64 (limb 0 S)] := Box.call hb (by repeat (first | with_reducible assumption | with_reducible apply Box.set10 | with_reducible apply Box.set20 | with_reducible apply Box.set21 | with_reducible apply Box.set40 | with_reducible apply Box.set41 | with_reducible apply Box.set42 | with_reducible apply Box.set43 | with_reducible apply Box.set50 | with_reducible apply Box.set51 | with_reducible apply Box.set52 | with_reducible apply Box.set53 | with_reducible apply Box.set54 | with_reducible apply Box.drew | (with_reducible apply Box.newAt; (try simp only [World.size_alloc, World.size_setCell, World.size_drew]); done) | with_reducible apply Box.alloc | (with_reducible apply Box.other; case hne => ((try simp only [World.size_alloc, World.size_setCell, World.size_drew]); omega))))
    have X4' : Box w7 (w2.heap.size) #[.int .u64 (limb 1 D), .int .u64 (limb 0 D)] := Box.call hb (by repeat (first | with_reducible assumption | with_reducible apply Box.set10 | with_reducible apply Box.set20 | with_reducible apply Box.set21 | with_reducible apply Box.set40 | with_reducible apply Box.set41 | with_reducible apply Box.set42 | with_reducible apply Box.set43 | with_reducible apply Box.set50 | with_reducible apply Box.set51 | with_reducible apply Box.set52 | with_reducible apply Box.set53 | with_reducible apply Box.set54 | with_reducible apply Box.drew | (with_reducible apply Box.newAt; (try simp only [World.size_alloc, World.size_setCell, World.size_drew]); done) | with_reducible apply Box.alloc | (with_reducible apply Box.other; case hne => ((try simp only [World.size_alloc, World.size_setCell, World.size_drew]); omega))))
    have N3' : IsN w7 u3_4 (A) := (IsN.kept N3 (by repeat (first | with_reducible exact Kept.refl _ | with_reducible refine Kept.alloc ?_ _ | with_reducible refine Kept.drew ?_ | with_reducible refine Kept.setCell ?_ (by simp only [World.size_alloc, World.size_setCell, World.size_drew]; omega) _))).call hb
    have N4' : IsN w7 u3_5 (B) := (IsN.kept N4 (by repeat (first | with_reducible exact Kept.refl _ | with_reducible refine Kept.alloc ?_ _ | with_reducible refine Kept.drew ?_ | with_reducible refine Kept.setCell ?_ (by simp only [World.size_alloc, World.size_setCell, World.size_drew]; omega) _))).call hb
    have N5' : IsN w7 vN5 (A + B) := (IsN.kept N5 (by repeat (first | with_reducible exact Kept.refl _ | with_reducible refine Kept.alloc ?_ _ | with_reducible refine Kept.drew ?_ | with_reducible refine Kept.setCell ?_ (by simp only [World.size_alloc, World.size_setCell, World.size_drew]; omega) _))).call hb
    have N6' : IsN w7 vN6 (Z) := (IsN.kept N6 (by repeat (first | with_reducible exact Kept.refl _ | with_reducible refine Kept.alloc ?_ _ | with_reducible refine Kept.drew ?_ | with_reducible refine Kept.setCell ?_ (by simp only [World.size_alloc, World.size_setCell, World.size_drew]; omega) _))).call hb
    have hk' : Kept w.heap.size w w7 := Kept.step (by repeat (first | with_reducible exact hk | with_reducible exact Kept.refl _ | with_reducible refine Kept.alloc ?_ _ | with_reducible refine Kept.drew ?_ | with_reducible refine Kept.setCell ?_ (by simp only [World.size_alloc, World.size_setCell, World.size_drew]; omega) _)) hb
    clear hk hb
    clear X3 X3l1 X3l2 X3l3 X3f X30 X31
    clear X4 X4l1 X4l2 X4l3 X4f X40 X41
    have X3 := X3'
    clear X3'
    have X4 := X4'
    clear X4'
    clear N3
    have N3 := N3'
    clear N3'
    clear N4
    have N4 := N4'
    clear N4'
    clear N5
    have N5 := N5'
    clear N5'
    clear N6
    have N6 := N6'
    clear N6'
    have hk := hk'
    clear hk'
    have hz_w7 := hk.size
    have X3l := X3.lt
    have X3f := X3.free
    have X3l1 : w1.heap.size < w7.heap.size + 1 := by omega
    have X3l2 : w1.heap.size < w7.heap.size + 1 + 1 := by omega
    have X3l3 : w1.heap.size < w7.heap.size + 1 + 1 + 1 := by omega
    have X30 := X3.cell 0 _ rfl
    have X31 := X3.cell 1 _ rfl
    have X4l := X4.lt
    have X4f := X4.free
    have X4l1 : w2.heap.size < w7.heap.size + 1 := by omega
    have X4l2 : w2.heap.size < w7.heap.size + 1 + 1 := by omega
    have X4l3 : w2.heap.size < w7.heap.size + 1 + 1 + 1 := by omega
    have X40 := X4.cell 0 _ rfl
    have X41 := X4.cell 1 _ rfl
    have N7 : IsN w7 vN7 (A + Z) := N7_
    clear N7_
    clear N3
    go_wp2
    refine wp_region_g 29 (fun W' => Kept w.heap.size w W' ∧ w7.heap.size ≤ W'.heap.size ∧ Box W' (w1.heap.size) #[.int .u64 (limb 1 S), .int .u64 (limb 0 S)] ∧ Box W' (w2.heap.size) #[.int .u64 (limb 1 D), .int .u64 (limb 0 D)] ∧ IsN W' u3_5 (B) ∧ IsN W' vN5 (A + B) ∧ IsN W' vN6 (Z) ∧ IsN W' vN7 (A + Z)) (fun W' => Kept w.heap.size w W' ∧ w7.heap.size ≤ W'.heap.size ∧ Box W' (w1.heap.size) #[.int .u64 (limb 1 S), .int .u64 (limb 0 S)] ∧ Box W' (w2.heap.size) #[.int .u64 (limb 1 D), .int .u64 (limb 0 D)] ∧ IsN W' u3_5 (B) ∧ IsN W' vN5 (A + B) ∧ IsN W' vN6 (Z) ∧ IsN W' vN7 (A + Z)) 1000 (w7.heap.size) [.known (bitsV S), .num (A + B), .known (bitsV S), .known (.bool true), .known (.bool true), .known (.bool true), .num (A + B), .num (Z), .known (.int .i64 (cmpN (A + B) Z)), .known (.bool true), .known (.bool true), .known (.bool true), .known (.bool true), .known (bitsV D), .num (A + Z), .num (B), .num ((A + Z) - B), .known (bitsV D), .known (.bool true), .known (.bool true), .known (.bool true), .known (.bool true), .known (.bool true), .known (.bool true), .known (.bool true), .known (.bool true), .known (.bool true), .known (.bool true), .known (.bool true)] (by kernel_rfl) (by kernel_rfl) (fun W W' h hb => ⟨h.1.step hb, Nat.le_trans (h.2.1) hb.size, Box.call hb (h.2.2.1), Box.call hb (h.2.2.2.1), IsN.call (h.2.2.2.2.1) hb, IsN.call (h.2.2.2.2.2.1) hb, IsN.call (h.2.2.2.2.2.2.1) hb, IsN.call (h.2.2.2.2.2.2.2) hb⟩) (fun W W' h hb => ⟨h.1.step hb, Nat.le_trans (h.2.1) hb.size, Box.call hb (h.2.2.1), Box.call hb (h.2.2.2.1), IsN.call (h.2.2.2.2.1) hb, IsN.call (h.2.2.2.2.2.1) hb, IsN.call (h.2.2.2.2.2.2.1) hb, IsN.call (h.2.2.2.2.2.2.2) hb⟩) (no_out (of_decide_eq_true (by kernel_rfl))) (.inl (by kernel_rfl)) (.inl (by kernel_rfl)) (fun _ h => h.2.1) (fun _ h => h.2.1) (⟨(by repeat (first | with_reducible exact hk | with_reducible exact Kept.refl _ | with_reducible refine Kept.alloc ?_ _ | with_reducible refine Kept.drew ?_ | with_reducible refine Kept.setCell ?_ (by simp only [World.size_alloc, World.size_setCell, World.size_drew]; omega) _)), (by (try simp only [World.size_alloc, World.size_setCell, World.size_drew]); omega), (by repeat (first | with_reducible assumption | with_reducible apply Box.set10 | with_reducible apply Box.set20 | with_reducible apply Box.set21 | with_reducible apply Box.set40 | with_reducible apply Box.set41 | with_reducible apply Box.set42 | with_reducible apply Box.set43 | with_reducible apply Box.set50 | with_reducible apply Box.set51 | with_reducible apply Box.set52 | with_reducible apply Box.set53 | with_reducible apply Box.set54 | with_reducible apply Box.drew | (with_reducible apply Box.newAt; (try simp only [World.size_alloc, World.size_setCell, World.size_drew]); done) | with_reducible apply Box.alloc | (with_reducible apply Box.other; case hne => ((try simp only [World.size_alloc, World.size_setCell, World.size_drew]); omega)))), (by repeat (first | with_reducible assumption | with_reducible apply Box.set10 | with_reducible apply Box.set20 | with_reducible apply Box.set21 | with_reducible apply Box.set40 | with_reducible apply Box.set41 | with_reducible apply Box.set42 | with_reducible apply Box.set43 | with_reducible apply Box.set50 | with_reducible apply Box.set51 | with_reducible apply Box.set52 | with_reducible apply Box.set53 | with_reducible apply Box.set54 | with_reducible apply Box.drew | (with_reducible apply Box.newAt; (try simp only [World.size_alloc, World.size_setCell, World.size_drew]); done) | with_reducible apply Box.alloc | (with_reducible apply Box.other; case hne => ((try simp only [World.size_alloc, World.size_setCell, World.size_drew]); omega)))), (IsN.drew (IsN.kept N4 (by repeat (first | with_reducible exact Kept.refl _ | with_reducible refine Kept.alloc ?_ _ | with_reducible refine Kept.drew ?_ | with_reducible refine Kept.setCell ?_ (by simp only [World.size_alloc, World.size_setCell, World.size_drew]; omega) _)))), (IsN.drew (IsN.kept N5 (by repeat (first | with_reducible exact Kept.refl _ | with_reducible refine Kept.alloc ?_ _ | with_reducible refine Kept.drew ?_ | with_reducible refine Kept.setCell ?_ (by simp only [World.size_alloc, World.size_setCell, World.size_drew]; omega) _)))), (IsN.drew (IsN.kept N6 (by repeat (first | with_reducible exact Kept.refl _ | with_reducible refine Kept.alloc ?_ _ | with_reducible refine Kept.drew ?_ | with_reducible refine Kept.setCell ?_ (by simp only [World.size_alloc, World.size_setCell, World.size_drew]; omega) _)))), (IsN.drew (IsN.kept N7 (by repeat (first | with_reducible exact Kept.refl _ | with_reducible refine Kept.alloc ?_ _ | with_reducible refine Kept.drew ?_ | with_reducible refine Kept.setCell ?_ (by simp only [World.size_alloc, World.size_setCell, World.size_drew]; omega) _))))⟩) ?_
    clear hk
    clear X3 X3l1 X3l2 X3l3 X3f X30 X31
    clear X4 X4l1 X4l2 X4l3 X4f X40 X41
    clear N4
    clear N5
    clear N6
    clear N7
    intro ρ
    simp only [List.take_succ_cons, List.take_zero, List.drop_succ_cons, List.drop_zero]
    refine ⟨?_, ?_⟩
    · as_aux_lemma =>
      intro y_ hS_ hO_ hD
      have Q := ((hS_ (by rfl)).2.2.1).cell
      have q0 := Q 0 _ rfl
      have q1 := Q 1 _ rfl
      clear Q hS_ hO_ hD
      refine s_gen (V := bitsV S) [.pointer (some ⟨w1.heap.size, 0, none⟩)] (by kernel_rfl) (by kernel_rfl) (by kernel_rfl) ?_
      intro r_ hr_
      have o0_ : r_ (.tmp 5) = .pointer (some ⟨w1.heap.size, 0, none⟩) := op_at hr_ 0 (by kernel_rfl) (by kernel_rfl)
      clear hr_
      go_simp; first | done | with_reducible rfl
    simp only [Act.put, planVG, List.setIfInBounds_toArray, List.set_cons_zero, List.set_cons_succ, List.getElem?_cons_zero, List.getElem?_cons_succ]
    refine ⟨?_, ?_⟩
    · as_aux_lemma =>
      intro y_ hS_ hO_ hD
      have hS := hS_ (by rfl)
      have n_ : IsN y_ (vN5) (A + B) := hS.2.2.2.2.2.1
      clear hS hS_ hO_ hD
      exact s_num (by rfl) (by rfl) (by rfl) n_
    simp only [Act.put, planVG, List.setIfInBounds_toArray, List.set_cons_zero, List.set_cons_succ, List.getElem?_cons_zero, List.getElem?_cons_succ]
    refine ⟨?_, ?_⟩
    · as_aux_lemma =>
      intro y_ hS_ hO_ hD
      have n_1 : IsN y_ (ρ 1) (A + B) := hD 1 (by decide) (by rfl)
      try clear hS
      clear hS_ hO_ hD
      refine s_gcall (V := bitsV S) [.func (.func 22) #[] #[], ρ 1] ?_ ?_ (by kernel_rfl) (by kernel_rfl) (by kernel_rfl) ?_ ?_
      rotate_left 2
      · intro r_ hr_
        have o0_ : r_ (.func 22) = .func (.func 22) #[] #[] := op_at hr_ 0 (by kernel_rfl) (by kernel_rfl)
        have o1_ : r_ (.tmp 43) = ρ 1 := op_at hr_ 1 (by kernel_rfl) (by kernel_rfl)
        clear hr_
        go_simp; first | done | with_reducible rfl | (constructor <;> with_reducible rfl)
      · refine Bits_eq HE1.out _ n_1 (by omega)
    simp only [Act.put, planVG, List.setIfInBounds_toArray, List.set_cons_zero, List.set_cons_succ, List.getElem?_cons_zero, List.getElem?_cons_succ]
    refine ⟨?_, ?_⟩
    · as_aux_lemma =>
      intro y_ hS_ hO_ hD
      clear hS_ hO_ hD
      refine s_gen (V := .bool true) [bitsV S, bitsV S] (by kernel_rfl) (by kernel_rfl) (by kernel_rfl) ?_
      intro r_ hr_
      have o0_ : r_ (.tmp 42) = bitsV S := op_at hr_ 0 (by kernel_rfl) (by kernel_rfl)
      have o1_ : r_ (.tmp 44) = bitsV S := op_at hr_ 1 (by kernel_rfl) (by kernel_rfl)
      clear hr_
      go_simp; first | done | with_reducible rfl | omega
    simp only [Act.put, planVG, List.setIfInBounds_toArray, List.set_cons_zero, List.set_cons_succ, List.getElem?_cons_zero, List.getElem?_cons_succ]
    refine ⟨?_, ?_⟩
    · as_aux_lemma =>
      intro y_ hS_ hO_ hD
      clear hS_ hO_ hD
      refine s_gen (V := .bool true) [.bool true] (by kernel_rfl) (by kernel_rfl) (by kernel_rfl) ?_
      intro r_ hr_
      have o0_ : r_ (.tmp 45) = .bool true := op_at hr_ 0 (by kernel_rfl) (by kernel_rfl)
      clear hr_
      go_simp; first | done | with_reducible rfl | omega
    simp only [Act.put, planVG, List.setIfInBounds_toArray, List.set_cons_zero, List.set_cons_succ, List.getElem?_cons_zero, List.getElem?_cons_succ]
    refine ⟨?_, ?_⟩
    · as_aux_lemma =>
      intro y_ hS_ hO_ hD
      clear hS_ hO_ hD
      refine s_gen (V := .bool true) [.bool true] (by kernel_rfl) (by kernel_rfl) (by kernel_rfl) ?_
      intro r_ hr_
      have o0_ : r_ (.tmp 6) = .bool true := op_at hr_ 0 (by kernel_rfl) (by kernel_rfl)
      clear hr_
      go_simp; first | done | with_reducible rfl | omega
    simp only [Act.put, planVG, List.setIfInBounds_toArray, List.set_cons_zero, List.set_cons_succ, List.getElem?_cons_zero, List.getElem?_cons_succ]
    refine ⟨?_, ?_⟩
    · as_aux_lemma =>
      intro y_ hS_ hO_ hD
      have hS := hS_ (by rfl)
      have n_ : IsN y_ (vN5) (A + B) := hS.2.2.2.2.2.1
      clear hS hS_ hO_ hD
      exact s_num (by rfl) (by rfl) (by rfl) n_
    simp only [Act.put, planVG, List.setIfInBounds_toArray, List.set_cons_zero, List.set_cons_succ, List.getElem?_cons_zero, List.getElem?_cons_succ]
    refine ⟨?_, ?_⟩
    · as_aux_lemma =>
      intro y_ hS_ hO_ hD
      have hS := hS_ (by rfl)
      have n_ : IsN y_ (vN6) (Z) := hS.2.2.2.2.2.2.1
      clear hS hS_ hO_ hD
      exact s_num (by rfl) (by rfl) (by rfl) n_
    simp only [Act.put, planVG, List.setIfInBounds_toArray, List.set_cons_zero, List.set_cons_succ, List.getElem?_cons_zero, List.getElem?_cons_succ]
    refine ⟨?_, ?_⟩
    · as_aux_lemma =>
      intro y_ hS_ hO_ hD
      have n_6 : IsN y_ (ρ 6) (A + B) := hD 6 (by decide) (by rfl)
      have n_7 : IsN y_ (ρ 7) (Z) := hD 7 (by decide) (by rfl)
      try clear hS
      clear hS_ hO_ hD
      refine s_gcall (V := .int .i64 (cmpN (A + B) Z)) [.func (.func 30) #[] #[], ρ 6, ρ 7] ?_ ?_ (by kernel_rfl) (by kernel_rfl) (by kernel_rfl) ?_ ?_
      rotate_left 2
      · intro r_ hr_
        have o0_ : r_ (.func 30) = .func (.func 30) #[] #[] := op_at hr_ 0 (by kernel_rfl) (by kernel_rfl)
        have o1_ : r_ (.tmp 48) = ρ 6 := op_at hr_ 1 (by kernel_rfl) (by kernel_rfl)
        have o2_ : r_ (.tmp 49) = ρ 7 := op_at hr_ 2 (by kernel_rfl) (by kernel_rfl)
        clear hr_
        go_simp; first | done | with_reducible rfl | (constructor <;> with_reducible rfl)
      · refine refCmp_any _ n_6 n_7 (by omega) (by omega)
    simp only [Act.put, planVG, List.setIfInBounds_toArray, List.set_cons_zero, List.set_cons_succ, List.getElem?_cons_zero, List.getElem?_cons_succ]
    refine ⟨?_, ?_⟩
    · as_aux_lemma =>
      intro y_ hS_ hO_ hD
      clear hS_ hO_ hD
      refine s_gen (V := .bool true) [.int .i64 (cmpN (A + B) Z), .int .i64 0] (by kernel_rfl) (by kernel_rfl) (by kernel_rfl) ?_
      intro r_ hr_
      have o0_ : r_ (.tmp 50) = .int .i64 (cmpN (A + B) Z) := op_at hr_ 0 (by kernel_rfl) (by kernel_rfl)
      have o1_ : r_ (.const (.int .i64 0)) = .int .i64 0 := op_at hr_ 1 (by kernel_rfl) (by kernel_rfl)
      clear hr_
      go_simp; first | done | with_reducible rfl | omega
    simp only [Act.put, planVG, List.setIfInBounds_toArray, List.set_cons_zero, List.set_cons_succ, List.getElem?_cons_zero, List.getElem?_cons_succ]
    refine ⟨?_, ?_⟩
    · as_aux_lemma =>
      intro y_ hS_ hO_ hD
      clear hS_ hO_ hD
      refine s_gen (V := .bool true) [.bool true, .bool true] (by kernel_rfl) (by kernel_rfl) (by kernel_rfl) ?_
      intro r_ hr_
      have o0_ : r_ (.tmp 47) = .bool true := op_at hr_ 0 (by kernel_rfl) (by kernel_rfl)
      have o1_ : r_ (.tmp 51) = .bool true := op_at hr_ 1 (by kernel_rfl) (by kernel_rfl)
      clear hr_
      go_simp; first | done | with_reducible rfl | omega
    simp only [Act.put, planVG, List.setIfInBounds_toArray, List.set_cons_zero, List.set_cons_succ, List.getElem?_cons_zero, List.getElem?_cons_succ]
    refine ⟨?_, ?_⟩
    · as_aux_lemma =>
      intro y_ hS_ hO_ hD
      clear hS_ hO_ hD
      refine s_gen (V := .bool true) [.bool true, .bool true, .bool false] (by kernel_rfl) (by kernel_rfl) (by kernel_rfl) ?_
      intro r_ hr_
      have o0_ : r_ (.tmp 46) = .bool true := op_at hr_ 0 (by kernel_rfl) (by kernel_rfl)
      have o1_ : r_ (.tmp 52) = .bool true := op_at hr_ 1 (by kernel_rfl) (by kernel_rfl)
      have o2_ : r_ (.const (.bool false)) = .bool false := op_at hr_ 2 (by kernel_rfl) (by kernel_rfl)
      clear hr_
      go_simp; first | done | with_reducible rfl | omega
    simp only [Act.put, planVG, List.setIfInBounds_toArray, List.set_cons_zero, List.set_cons_succ, List.getElem?_cons_zero, List.getElem?_cons_succ]
    refine ⟨?_, ?_⟩
    · as_aux_lemma =>
      intro y_ hS_ hO_ hD
      clear hS_ hO_ hD
      refine s_gen (V := .bool true) [.bool true] (by kernel_rfl) (by kernel_rfl) (by kernel_rfl) ?_
      intro r_ hr_
      have o0_ : r_ (.tmp 53) = .bool true := op_at hr_ 0 (by kernel_rfl) (by kernel_rfl)
      clear hr_
      go_simp; first | done | with_reducible rfl | omega
    simp only [Act.put, planVG, List.setIfInBounds_toArray, List.set_cons_zero, List.set_cons_succ, List.getElem?_cons_zero, List.getElem?_cons_succ]
    refine ⟨?_, ?_⟩
    · as_aux_lemma =>
      intro y_ hS_ hO_ hD
      have Q := ((hS_ (by rfl)).2.2.2.1).cell
      have q0 := Q 0 _ rfl
      have q1 := Q 1 _ rfl
      clear Q hS_ hO_ hD
      refine s_gen (V := bitsV D) [.pointer (some ⟨w2.heap.size, 0, none⟩)] (by kernel_rfl) (by kernel_rfl) (by kernel_rfl) ?_
      intro r_ hr_
      have o0_ : r_ (.tmp 7) = .pointer (some ⟨w2.heap.size, 0, none⟩) := op_at hr_ 0 (by kernel_rfl) (by kernel_rfl)
      clear hr_
      go_simp; first | done | with_reducible rfl
    simp only [Act.put, planVG, List.setIfInBounds_toArray, List.set_cons_zero, List.set_cons_succ, List.getElem?_cons_zero, List.getElem?_cons_succ]
    refine ⟨?_, ?_⟩
    · as_aux_lemma =>
      intro y_ hS_ hO_ hD
      have hS := hS_ (by rfl)
      have n_ : IsN y_ (vN7) (A + Z) := hS.2.2.2.2.2.2.2
      clear hS hS_ hO_ hD
      exact s_num (by rfl) (by rfl) (by rfl) n_
    simp only [Act.put, planVG, List.setIfInBounds_toArray, List.set_cons_zero, List.set_cons_succ, List.getElem?_cons_zero, List.getElem?_cons_succ]
    refine ⟨?_, ?_⟩
    · as_aux_lemma =>
      intro y_ hS_ hO_ hD
      have hS := hS_ (by rfl)
      have n_ : IsN y_ (u3_5) (B) := hS.2.2.2.2.1
      clear hS hS_ hO_ hD
      exact s_num (by rfl) (by rfl) (by rfl) n_
    simp only [Act.put, planVG, List.setIfInBounds_toArray, List.set_cons_zero, List.set_cons_succ, List.getElem?_cons_zero, List.getElem?_cons_succ]
    refine ⟨?_, ?_⟩
    · as_aux_lemma =>
      intro y_ hS_ hO_ hD
      have n_14 : IsN y_ (ρ 14) (A + Z) := hD 14 (by decide) (by rfl)
      have n_15 : IsN y_ (ρ 15) (B) := hD 15 (by decide) (by rfl)
      try clear hS
      clear hS_ hO_ hD
      refine s_gcallN (A := (A + Z) - B) [.func (.func 31) #[] #[], ρ 14, ρ 15] ?_ ?_ (by kernel_rfl) (by kernel_rfl) (by kernel_rfl) ?_ ?_
      rotate_left 2
      · intro r_ hr_
        have o0_ : r_ (.func 31) = .func (.func 31) #[] #[] := op_at hr_ 0 (by kernel_rfl) (by kernel_rfl)
        have o1_ : r_ (.tmp 56) = ρ 14 := op_at hr_ 1 (by kernel_rfl) (by kernel_rfl)
        have o2_ : r_ (.tmp 57) = ρ 15 := op_at hr_ 2 (by kernel_rfl) (by kernel_rfl)
        clear hr_
        go_simp; first | done | with_reducible rfl | (constructor <;> with_reducible rfl)
      · refine refSub_any _ n_14 n_15 (by omega) (by omega) HLE.out
    simp only [Act.put, planVG, List.setIfInBounds_toArray, List.set_cons_zero, List.set_cons_succ, List.getElem?_cons_zero, List.getElem?_cons_succ]
    refine ⟨?_, ?_⟩
    · as_aux_lemma =>
      intro y_ hS_ hO_ hD
      have n_16 : IsN y_ (ρ 16) ((A + Z) - B) := hD 16 (by decide) (by rfl)
      try clear hS
      clear hS_ hO_ hD
      refine s_gcall (V := bitsV D) [.func (.func 22) #[] #[], ρ 16] ?_ ?_ (by kernel_rfl) (by kernel_rfl) (by kernel_rfl) ?_ ?_
      rotate_left 2
      · intro r_ hr_
        have o0_ : r_ (.func 22) = .func (.func 22) #[] #[] := op_at hr_ 0 (by kernel_rfl) (by kernel_rfl)
        have o1_ : r_ (.tmp 58) = ρ 16 := op_at hr_ 1 (by kernel_rfl) (by kernel_rfl)
        clear hr_
        go_simp; first | done | with_reducible rfl | (constructor <;> with_reducible rfl)
      · refine Bits_eq HE2.out _ n_16 (by omega)
    simp only [Act.put, planVG, List.setIfInBounds_toArray, List.set_cons_zero, List.set_cons_succ, List.getElem?_cons_zero, List.getElem?_cons_succ]
    refine ⟨?_, ?_⟩
    · as_aux_lemma =>
      intro y_ hS_ hO_ hD
      clear hS_ hO_ hD
      refine s_gen (V := .bool true) [bitsV D, bitsV D] (by kernel_rfl) (by kernel_rfl) (by kernel_rfl) ?_
      intro r_ hr_
      have o0_ : r_ (.tmp 55) = bitsV D := op_at hr_ 0 (by kernel_rfl) (by kernel_rfl)
      have o1_ : r_ (.tmp 59) = bitsV D := op_at hr_ 1 (by kernel_rfl) (by kernel_rfl)
      clear hr_
      go_simp; first | done | with_reducible rfl | omega
    simp only [Act.put, planVG, List.setIfInBounds_toArray, List.set_cons_zero, List.set_cons_succ, List.getElem?_cons_zero, List.getElem?_cons_succ]
    refine ⟨?_, ?_⟩
    · as_aux_lemma =>
      intro y_ hS_ hO_ hD
      clear hS_ hO_ hD
      refine s_gen (V := .bool true) [.bool true, .bool true, .bool false] (by kernel_rfl) (by kernel_rfl) (by kernel_rfl) ?_
      intro r_ hr_
      have o0_ : r_ (.tmp 54) = .bool true := op_at hr_ 0 (by kernel_rfl) (by kernel_rfl)
      have o1_ : r_ (.tmp 60) = .bool true := op_at hr_ 1 (by kernel_rfl) (by kernel_rfl)
      have o2_ : r_ (.const (.bool false)) = .bool false := op_at hr_ 2 (by kernel_rfl) (by kernel_rfl)
      clear hr_
      go_simp; first | done | with_reducible rfl | omega
    simp only [Act.put, planVG, List.setIfInBounds_toArray, List.set_cons_zero, List.set_cons_succ, List.getElem?_cons_zero, List.getElem?_cons_succ]
    refine ⟨?_, ?_⟩
    · as_aux_lemma =>
      intro y_ hS_ hO_ hD
      clear hS_ hO_ hD
      refine s_gen (V := .bool true) [.bool true] (by kernel_rfl) (by kernel_rfl) (by kernel_rfl) ?_
      intro r_ hr_
      have o0_ : r_ (.tmp 61) = .bool true := op_at hr_ 0 (by kernel_rfl) (by kernel_rfl)
      clear hr_
      go_simp; first | done | with_reducible rfl | omega
    simp only [Act.put, planVG, List.setIfInBounds_toArray, List.set_cons_zero, List.set_cons_succ, List.getElem?_cons_zero, List.getElem?_cons_succ]
    refine ⟨?_, ?_⟩
    · as_aux_lemma =>
      intro y_ hS_ hO_ hD
      clear hS_ hO_ hD
      refine s_gen (V := .bool true) [.bool true] (by kernel_rfl) (by kernel_rfl) (by kernel_rfl) ?_
      intro r_ hr_
      have o0_ : r_ (.tmp 8) = .bool true := op_at hr_ 0 (by kernel_rfl) (by kernel_rfl)
      clear hr_
      go_simp; first | done | with_reducible rfl | omega
    simp only [Act.put, planVG, List.setIfInBounds_toArray, List.set_cons_zero, List.set_cons_succ, List.getElem?_cons_zero, List.getElem?_cons_succ]
    refine ⟨?_, ?_⟩
    · as_aux_lemma =>
      intro y_ hS_ hO_ hD
      clear hS_ hO_ hD
      refine s_gen (V := .bool true) [.bool true] (by kernel_rfl) (by kernel_rfl) (by kernel_rfl) ?_
      intro r_ hr_
      have o0_ : r_ (.tmp 13) = .bool true := op_at hr_ 0 (by kernel_rfl) (by kernel_rfl)
      clear hr_
      go_simp; first | done | with_reducible rfl | omega
    simp only [Act.put, planVG, List.setIfInBounds_toArray, List.set_cons_zero, List.set_cons_succ, List.getElem?_cons_zero, List.getElem?_cons_succ]
    refine ⟨?_, ?_⟩
    · as_aux_lemma =>
      intro y_ hS_ hO_ hD
      clear hS_ hO_ hD
      refine s_gen (V := .bool true) [.bool true, .bool true] (by kernel_rfl) (by kernel_rfl) (by kernel_rfl) ?_
      intro r_ hr_
      have o0_ : r_ (.tmp 63) = .bool true := op_at hr_ 0 (by kernel_rfl) (by kernel_rfl)
      have o1_ : r_ (.tmp 64) = .bool true := op_at hr_ 1 (by kernel_rfl) (by kernel_rfl)
      clear hr_
      go_simp; first | done | with_reducible rfl | omega
    simp only [Act.put, planVG, List.setIfInBounds_toArray, List.set_cons_zero, List.set_cons_succ, List.getElem?_cons_zero, List.getElem?_cons_succ]
    refine ⟨?_, ?_⟩
    · as_aux_lemma =>
      intro y_ hS_ hO_ hD
      clear hS_ hO_ hD
      refine s_gen (V := .bool true) [.bool true, .bool true, .bool false] (by kernel_rfl) (by kernel_rfl) (by kernel_rfl) ?_
      intro r_ hr_
      have o0_ : r_ (.tmp 62) = .bool true := op_at hr_ 0 (by kernel_rfl) (by kernel_rfl)
      have o1_ : r_ (.tmp 65) = .bool true := op_at hr_ 1 (by kernel_rfl) (by kernel_rfl)
      have o2_ : r_ (.const (.bool false)) = .bool false := op_at hr_ 2 (by kernel_rfl) (by kernel_rfl)
      clear hr_
      go_simp; first | done | with_reducible rfl | omega
    simp only [Act.put, planVG, List.setIfInBounds_toArray, List.set_cons_zero, List.set_cons_succ, List.getElem?_cons_zero, List.getElem?_cons_succ]
    refine ⟨?_, ?_⟩
    · as_aux_lemma =>
      intro y_ hS_ hO_ hD
      clear hS_ hO_ hD
      refine s_gen (V := .bool true) [.bool true] (by kernel_rfl) (by kernel_rfl) (by kernel_rfl) ?_
      intro r_ hr_
      have o0_ : r_ (.tmp 66) = .bool true := op_at hr_ 0 (by kernel_rfl) (by kernel_rfl)
      clear hr_
      go_simp; first | done | with_reducible rfl | omega
    simp only [Act.put, planVG, List.setIfInBounds_toArray, List.set_cons_zero, List.set_cons_succ, List.getElem?_cons_zero, List.getElem?_cons_succ]
    refine ⟨?_, ?_⟩
    · as_aux_lemma =>
      intro y_ hS_ hO_ hD
      try clear hS
      clear hS_ hO_ hD
      refine s_gcall (V := .bool true) [.func (.func 32) #[] #[]] ?_ ?_ (by kernel_rfl) (by kernel_rfl) (by kernel_rfl) ?_ ?_
      rotate_left 2
      · intro r_ hr_
        have o0_ : r_ (.func 32) = .func (.func 32) #[] #[] := op_at hr_ 0 (by kernel_rfl) (by kernel_rfl)
        clear hr_
        go_simp; first | done | with_reducible rfl | (constructor <;> with_reducible rfl)
      · refine counts01_any _
    simp only [Act.put, planVG, List.setIfInBounds_toArray, List.set_cons_zero, List.set_cons_succ, List.getElem?_cons_zero, List.getElem?_cons_succ]
    refine ⟨?_, ?_⟩
    · as_aux_lemma =>
      intro y_ hS_ hO_ hD
      clear hS_ hO_ hD
      refine s_gen (V := .bool true) [.bool true, .bool true, .bool false] (by kernel_rfl) (by kernel_rfl) (by kernel_rfl) ?_
      intro r_ hr_
      have o0_ : r_ (.tmp 67) = .bool true := op_at hr_ 0 (by kernel_rfl) (by kernel_rfl)
      have o1_ : r_ (.tmp 68) = .bool true := op_at hr_ 1 (by kernel_rfl) (by kernel_rfl)
      have o2_ : r_ (.const (.bool false)) = .bool false := op_at hr_ 2 (by kernel_rfl) (by kernel_rfl)
      clear hr_
      go_simp; first | done | with_reducible rfl | omega
    simp only [Act.put, planVG, List.setIfInBounds_toArray, List.set_cons_zero, List.set_cons_succ, List.getElem?_cons_zero, List.getElem?_cons_succ]
    refine ⟨?_, ?_⟩
    · as_aux_lemma =>
      intro y_ hS_ hO_ hD
      clear hS_ hO_ hD
      refine s_gen (V := .bool true) [.bool true] (by kernel_rfl) (by kernel_rfl) (by kernel_rfl) ?_
      intro r_ hr_
      have o0_ : r_ (.tmp 69) = .bool true := op_at hr_ 0 (by kernel_rfl) (by kernel_rfl)
      clear hr_
      go_simp; first | done | with_reducible rfl | omega
    simp only [Act.put, planVG, List.setIfInBounds_toArray, List.set_cons_zero, List.set_cons_succ, List.getElem?_cons_zero, List.getElem?_cons_succ]
    as_aux_lemma =>
      intro w8 hS hF hD_
      change wpList _ _ _ _ _ _
      replace hS := sg_no (by decide) hS
      obtain ⟨hk, hZ8, X3, X4, N4, N5, N6, N7⟩ := hS
      have M1 : IsN w8 (ρ 1) (A + B) := hF 1 (by decide)
      have M6 : IsN w8 (ρ 6) (A + B) := hF 6 (by decide)
      have M7 : IsN w8 (ρ 7) (Z) := hF 7 (by decide)
      have M14 : IsN w8 (ρ 14) (A + Z) := hF 14 (by decide)
      have M15 : IsN w8 (ρ 15) (B) := hF 15 (by decide)
      have M16 : IsN w8 (ρ 16) ((A + Z) - B) := hF 16 (by decide)
      clear hF hD_
      generalize ρ 1 = u8_1 at *
      generalize ρ 6 = u8_6 at *
      generalize ρ 7 = u8_7 at *
      generalize ρ 14 = u8_14 at *
      generalize ρ 15 = u8_15 at *
      generalize ρ 16 = u8_16 at *
      clear ρ
      have hz_w8 := hk.size
      have X3l := X3.lt
      have X3f := X3.free
      have X3l1 : w1.heap.size < w8.heap.size + 1 := by omega
      have X3l2 : w1.heap.size < w8.heap.size + 1 + 1 := by omega
      have X3l3 : w1.heap.size < w8.heap.size + 1 + 1 + 1 := by omega
      have X30 := X3.cell 0 _ rfl
      have X31 := X3.cell 1 _ rfl
      have X4l := X4.lt
      have X4f := X4.free
      have X4l1 : w2.heap.size < w8.heap.size + 1 := by omega
      have X4l2 : w2.heap.size < w8.heap.size + 1 + 1 := by omega
      have X4l3 : w2.heap.size < w8.heap.size + 1 + 1 + 1 := by omega
      have X40 := X4.cell 0 _ rfl
      have X41 := X4.cell 1 _ rfl
      clear M1
      clear M6
      clear M7
      clear M14
      clear M15
      clear M16
      go_wp2
      go_ret
      exact ⟨rfl, (by refine Kept.below ?_; repeat (first | with_reducible exact hk | with_reducible exact Kept.refl _ | with_reducible refine Kept.alloc ?_ _ | with_reducible refine Kept.drew ?_ | with_reducible refine Kept.setCell ?_ (by simp only [World.size_alloc, World.size_setCell, World.size_drew]; omega) _))⟩

theorem WordSums_walk {A B : Nat} (hA : W128 A) (hB : W128 B) (w : World) :
    Calls Try.prog 4 #[bitsV A, bitsV B] w fun e w' => e = .returned (.bool true) ∧ Below w.heap.size w w' := by
  rcases Nat.lt_or_ge A B with h | h <;> cases hc : carry128 A B
  · exact WordSums_10 hA hB (add128_w _ _) (sub128_w _ _) rfl rfl h hc w
  · exact WordSums_11 hA hB (add128_w _ _) (sub128_w _ _) rfl rfl h hc w
  · exact WordSums_00 hA hB (add128_w _ _) (sub128_w _ _) rfl rfl h hc w
  · exact WordSums_01 hA hB (add128_w _ _) (sub128_w _ _) rfl rfl h hc w
end Go.Proofs.Ythpmbfdbknikcaa
