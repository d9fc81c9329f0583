/- The walk of WideMul. -/
import Derived.Test.YtohlhmicolnmbaaLaw02
import Derived.Test.YtohlhmicolnmbaaRegionG
set_option linter.unusedVariables false
set_option linter.unusedSimpArgs false
namespace Go.Proofs.Ytohlhmicolnmbaa
open Go.RowKit

set_option maxRecDepth 100000 in
set_option maxHeartbeats 8000000 in
theorem WideMul_no {A B C : Nat} (hA : W128 A) (hB : W128 B) (hC : W128 C) (h : carry128 B C = false) (w : World) :
    Calls Try.prog 5 #[bitsV A, bitsV B, bitsV C] w fun e w' => e = .returned (.bool true) ∧ Below w.heap.size w w' := by
  have hk := Kept.refl w
  have f1 := mul_turn A B
  have f2 := mul_one' A
  obtain ⟨U, hU⟩ : ∃ U, A * 2 ^ 64 = U := ⟨_, rfl⟩
  have f3 := (mul_up A).trans hU
  have f4 : limb 0 U = 0 := hU ▸ (wide_mid hA).e0.symm
  have f5 : limb 1 U = limb 0 A := hU ▸ (wide_mid hA).e1.symm
  have f6 : limb 2 U = limb 1 A := hU ▸ (wide_mid hA).e2.symm
  have f7 : limb 3 U = 0 := hU ▸ (wide_mid hA).e3.symm
  clear hU
  have f8 := small_limb A 2 hA.lt (by omega)
  have f9 := small_limb A 3 hA.lt (by omega)
  have e1 := mul_sums hA hB hC h
  go_enter Try.func5, Try.ntmps5
  go_wp2_with fail
  (with_reducible refine (Add_at (IsBits.of hB) (IsBits.of hC) _).mono ?_)
  rintro e w1 ⟨rfl, hb⟩
  have X1' : Box w1 (w.heap.size) #[.int .u64 (limb 1 A), .int .u64 (limb 0 A)] := Box.call hb (by repeat (first | with_reducible assumption | with_reducible apply Box.set10 | with_reducible apply Box.set20 | with_reducible apply Box.set21 | with_reducible apply Box.set40 | with_reducible apply Box.set41 | with_reducible apply Box.set42 | with_reducible apply Box.set43 | with_reducible apply Box.set50 | with_reducible apply Box.set51 | with_reducible apply Box.set52 | with_reducible apply Box.set53 | with_reducible apply Box.set54 | with_reducible apply Box.drew | (with_reducible apply Box.newAt; (try simp only [World.size_alloc, World.size_setCell, World.size_drew]); done) | with_reducible apply Box.alloc | (with_reducible apply Box.other; case hne => ((try simp only [World.size_alloc, World.size_setCell, World.size_drew]); omega))))
  have X2' : Box w1 (w.heap.size + 1) #[.int .u64 (limb 1 B), .int .u64 (limb 0 B)] := Box.call hb (by repeat (first | with_reducible assumption | with_reducible apply Box.set10 | with_reducible apply Box.set20 | with_reducible apply Box.set21 | with_reducible apply Box.set40 | with_reducible apply Box.set41 | with_reducible apply Box.set42 | with_reducible apply Box.set43 | with_reducible apply Box.set50 | with_reducible apply Box.set51 | with_reducible apply Box.set52 | with_reducible apply Box.set53 | with_reducible apply Box.set54 | with_reducible apply Box.drew | (with_reducible apply Box.newAt; (try simp only [World.size_alloc, World.size_setCell, World.size_drew]); done) | with_reducible apply Box.alloc | (with_reducible apply Box.other; case hne => ((try simp only [World.size_alloc, World.size_setCell, World.size_drew]); omega))))
  have X3' : Box w1 (w.heap.size + 1 + 1) #[.int .u64 (limb 1 C), .int .u64 (limb 0 C)] := Box.call hb (by repeat (first | with_reducible assumption | with_reducible apply Box.set10 | with_reducible apply Box.set20 | with_reducible apply Box.set21 | with_reducible apply Box.set40 | with_reducible apply Box.set41 | with_reducible apply Box.set42 | with_reducible apply Box.set43 | with_reducible apply Box.set50 | with_reducible apply Box.set51 | with_reducible apply Box.set52 | with_reducible apply Box.set53 | with_reducible apply Box.set54 | with_reducible apply Box.drew | (with_reducible apply Box.newAt; (try simp only [World.size_alloc, World.size_setCell, World.size_drew]); done) | with_reducible apply Box.alloc | (with_reducible apply Box.other; case hne => ((try simp only [World.size_alloc, World.size_setCell, World.size_drew]); omega))))
  have hk' : Kept w.heap.size w w1 := Kept.step (by repeat (first | with_reducible exact hk | with_reducible exact Kept.refl _ | with_reducible refine Kept.alloc ?_ _ | with_reducible refine Kept.drew ?_ | with_reducible refine Kept.setCell ?_ (by simp only [World.size_alloc, World.size_setCell, World.size_drew]; omega) _)) hb
  clear hk hb
  have X1 := X1'
  clear X1'
  have X2 := X2'
  clear X2'
  have X3 := X3'
  clear X3'
  have hk := hk'
  clear hk'
  have hz_w1 := hk.size
  have X1l := X1.lt
  have X1f := X1.free
  have X1l1 : w.heap.size < w1.heap.size + 1 := by omega
  have X1l2 : w.heap.size < w1.heap.size + 1 + 1 := by omega
  have X1l3 : w.heap.size < w1.heap.size + 1 + 1 + 1 := by omega
  have X10 := X1.cell 0 _ rfl
  have X11 := X1.cell 1 _ rfl
  have X2l := X2.lt
  have X2f := X2.free
  have X2l1 : w.heap.size + 1 < w1.heap.size + 1 := by omega
  have X2l2 : w.heap.size + 1 < w1.heap.size + 1 + 1 := by omega
  have X2l3 : w.heap.size + 1 < w1.heap.size + 1 + 1 + 1 := by omega
  have X20 := X2.cell 0 _ rfl
  have X21 := X2.cell 1 _ rfl
  have X3l := X3.lt
  have X3f := X3.free
  have X3l1 : w.heap.size + 1 + 1 < w1.heap.size + 1 := by omega
  have X3l2 : w.heap.size + 1 + 1 < w1.heap.size + 1 + 1 := by omega
  have X3l3 : w.heap.size + 1 + 1 < w1.heap.size + 1 + 1 + 1 := by omega
  have X30 := X3.cell 0 _ rfl
  have X31 := X3.cell 1 _ rfl
  go_wp2
  refine wp_region_g 13 (fun W' => Kept w.heap.size w W' ∧ w1.heap.size + 1 ≤ W'.heap.size ∧ Box W' (w.heap.size) #[.int .u64 (limb 1 A), .int .u64 (limb 0 A)] ∧ Box W' (w.heap.size + 1) #[.int .u64 (limb 1 B), .int .u64 (limb 0 B)] ∧ Box W' (w.heap.size + 1 + 1) #[.int .u64 (limb 1 C), .int .u64 (limb 0 C)] ∧ Box W' (w1.heap.size) #[.int .u64 (limb 1 (add128 B C)), .int .u64 (limb 0 (add128 B C))]) (fun W' => Kept w.heap.size w W' ∧ w1.heap.size + 1 ≤ W'.heap.size ∧ Box W' (w.heap.size) #[.int .u64 (limb 1 A), .int .u64 (limb 0 A)] ∧ Box W' (w.heap.size + 1) #[.int .u64 (limb 1 B), .int .u64 (limb 0 B)] ∧ Box W' (w.heap.size + 1 + 1) #[.int .u64 (limb 1 C), .int .u64 (limb 0 C)] ∧ Box W' (w1.heap.size) #[.int .u64 (limb 1 (add128 B C)), .int .u64 (limb 0 (add128 B C))]) 1000 (w1.heap.size + 1) [.known (bitsV A), .known (bitsV B), .known (wideV (mulN A B)), .known (bitsV A), .known (bitsV C), .known (wideV (mulN A C)), .known (.tuple #[wideV (add256 (mulN A B) (mulN A C)), .bool (carry256 (mulN A B) (mulN A C))]), .known (.tuple #[wideV (add256 (mulN A B) (mulN A C)), .bool (carry256 (mulN A B) (mulN A C))]), .known (wideV (add256 (mulN A B) (mulN A C))), .known (.bool (carry256 (mulN A B) (mulN A C))), .var #[.int .u64 0, .int .u64 0, .int .u64 0, .int .u64 0] 11 [.int .u64 (limb 0 (add256 (mulN A B) (mulN A C))), .int .u64 (limb 1 (add256 (mulN A B) (mulN A C))), .int .u64 (limb 2 (add256 (mulN A B) (mulN A C))), .int .u64 (limb 3 (add256 (mulN A B) (mulN A C)))], .put 10, .known (.bool (carry256 (mulN A B) (mulN A C)))] (by kernel_rfl) (by kernel_rfl) (fun W W' h hb => ⟨h.1.step hb, Nat.le_trans (h.2.1) hb.size, Box.call hb (h.2.2.1), Box.call hb (h.2.2.2.1), Box.call hb (h.2.2.2.2.1), Box.call hb (h.2.2.2.2.2)⟩) (fun W W' h hb => ⟨h.1.step hb, Nat.le_trans (h.2.1) hb.size, Box.call hb (h.2.2.1), Box.call hb (h.2.2.2.1), Box.call hb (h.2.2.2.2.1), Box.call hb (h.2.2.2.2.2)⟩) (no_out (of_decide_eq_true (by kernel_rfl))) (.inr (fun W' b i v hb h => ⟨h.1.setCell (p := ⟨b, i, none⟩) (by simp only []; omega) v, (by rw [World.size_setCell]; exact h.2.1), (h.2.2.1).other (by omega), (h.2.2.2.1).other (by omega), (h.2.2.2.2.1).other (by omega), (h.2.2.2.2.2).other (by omega)⟩)) (.inr (fun W' b i v hb h => ⟨h.1.setCell (p := ⟨b, i, none⟩) (by simp only []; omega) v, (by rw [World.size_setCell]; exact h.2.1), (h.2.2.1).other (by omega), (h.2.2.2.1).other (by omega), (h.2.2.2.2.1).other (by omega), (h.2.2.2.2.2).other (by omega)⟩)) (fun _ h => h.2.1) (fun _ h => h.2.1) (⟨(by repeat (first | with_reducible exact hk | with_reducible exact Kept.refl _ | with_reducible refine Kept.alloc ?_ _ | with_reducible refine Kept.drew ?_ | with_reducible refine Kept.setCell ?_ (by simp only [World.size_alloc, World.size_setCell, World.size_drew]; omega) _)), (by simp only [World.size_alloc, World.size_setCell, World.size_drew]; omega), (by repeat (first | with_reducible assumption | with_reducible apply Box.set10 | with_reducible apply Box.set20 | with_reducible apply Box.set21 | with_reducible apply Box.set40 | with_reducible apply Box.set41 | with_reducible apply Box.set42 | with_reducible apply Box.set43 | with_reducible apply Box.set50 | with_reducible apply Box.set51 | with_reducible apply Box.set52 | with_reducible apply Box.set53 | with_reducible apply Box.set54 | with_reducible apply Box.drew | (with_reducible apply Box.newAt; (try simp only [World.size_alloc, World.size_setCell, World.size_drew]); done) | with_reducible apply Box.alloc | (with_reducible apply Box.other; case hne => ((try simp only [World.size_alloc, World.size_setCell, World.size_drew]); omega)))), (by repeat (first | with_reducible assumption | with_reducible apply Box.set10 | with_reducible apply Box.set20 | with_reducible apply Box.set21 | with_reducible apply Box.set40 | with_reducible apply Box.set41 | with_reducible apply Box.set42 | with_reducible apply Box.set43 | with_reducible apply Box.set50 | with_reducible apply Box.set51 | with_reducible apply Box.set52 | with_reducible apply Box.set53 | with_reducible apply Box.set54 | with_reducible apply Box.drew | (with_reducible apply Box.newAt; (try simp only [World.size_alloc, World.size_setCell, World.size_drew]); done) | with_reducible apply Box.alloc | (with_reducible apply Box.other; case hne => ((try simp only [World.size_alloc, World.size_setCell, World.size_drew]); omega)))), (by repeat (first | with_reducible assumption | with_reducible apply Box.set10 | with_reducible apply Box.set20 | with_reducible apply Box.set21 | with_reducible apply Box.set40 | with_reducible apply Box.set41 | with_reducible apply Box.set42 | with_reducible apply Box.set43 | with_reducible apply Box.set50 | with_reducible apply Box.set51 | with_reducible apply Box.set52 | with_reducible apply Box.set53 | with_reducible apply Box.set54 | with_reducible apply Box.drew | (with_reducible apply Box.newAt; (try simp only [World.size_alloc, World.size_setCell, World.size_drew]); done) | with_reducible apply Box.alloc | (with_reducible apply Box.other; case hne => ((try simp only [World.size_alloc, World.size_setCell, World.size_drew]); omega)))), (by repeat (first | with_reducible assumption | with_reducible apply Box.set10 | with_reducible apply Box.set20 | with_reducible apply Box.set21 | with_reducible apply Box.set40 | with_reducible apply Box.set41 | with_reducible apply Box.set42 | with_reducible apply Box.set43 | with_reducible apply Box.set50 | with_reducible apply Box.set51 | with_reducible apply Box.set52 | with_reducible apply Box.set53 | with_reducible apply Box.set54 | with_reducible apply Box.drew | (with_reducible apply Box.newAt; (try simp only [World.size_alloc, World.size_setCell, World.size_drew]); done) | with_reducible apply Box.alloc | (with_reducible apply Box.other; case hne => ((try simp only [World.size_alloc, World.size_setCell, World.size_drew]); omega))))⟩) ?_
  clear hk
  clear X1 X1l1 X1l2 X1l3 X1f X10 X11
  clear X2 X2l1 X2l2 X2l3 X2f X20 X21
  clear X3 X3l1 X3l2 X3l3 X3f X30 X31
  intro ρ
  simp only [List.take_succ_cons, List.take_zero, List.drop_succ_cons, List.drop_zero]
  refine ⟨?_, ?_⟩
  · as_aux_lemma =>
    intro w hS_ hD
    have hS := hS_ (by rfl)
    have Q := (hS.2.2.1).cell
    have q0 := Q 0 _ rfl
    have q1 := Q 1 _ rfl
    clear Q hS hS_ hD
    refine s_val (by rfl) (by rfl) ?_
    go_simp; first | done | with_reducible rfl
  simp only [Act.put, planVG, List.setIfInBounds_toArray, List.set_cons_zero, List.set_cons_succ, List.getElem?_cons_zero, List.getElem?_cons_succ]
  refine ⟨?_, ?_⟩
  · as_aux_lemma =>
    intro w hS_ hD
    have hS := hS_ (by rfl)
    have Q := (hS.2.2.2.1).cell
    have q0 := Q 0 _ rfl
    have q1 := Q 1 _ rfl
    clear Q hS hS_ hD
    refine s_val (by rfl) (by rfl) ?_
    go_simp; first | done | with_reducible rfl
  simp only [Act.put, planVG, List.setIfInBounds_toArray, List.set_cons_zero, List.set_cons_succ, List.getElem?_cons_zero, List.getElem?_cons_succ]
  refine ⟨?_, ?_⟩
  · as_aux_lemma =>
    intro w hS_ hD
    try clear hS
    clear hS_ hD
    refine s_call ?_ ?_ (by rfl) (by rfl) ?_ ?_
    rotate_left 2
    · go_simp; first | done | with_reducible rfl | (constructor <;> with_reducible rfl)
    · refine MulW_at (IsBits.of hA) (IsBits.of hB) _
  simp only [Act.put, planVG, List.setIfInBounds_toArray, List.set_cons_zero, List.set_cons_succ, List.getElem?_cons_zero, List.getElem?_cons_succ]
  refine ⟨?_, ?_⟩
  · as_aux_lemma =>
    intro w hS_ hD
    have hS := hS_ (by rfl)
    have Q := (hS.2.2.1).cell
    have q0 := Q 0 _ rfl
    have q1 := Q 1 _ rfl
    clear Q hS hS_ hD
    refine s_val (by rfl) (by rfl) ?_
    go_simp; first | done | with_reducible rfl
  simp only [Act.put, planVG, List.setIfInBounds_toArray, List.set_cons_zero, List.set_cons_succ, List.getElem?_cons_zero, List.getElem?_cons_succ]
  refine ⟨?_, ?_⟩
  · as_aux_lemma =>
    intro w hS_ hD
    have hS := hS_ (by rfl)
    have Q := (hS.2.2.2.2.1).cell
    have q0 := Q 0 _ rfl
    have q1 := Q 1 _ rfl
    clear Q hS hS_ hD
    refine s_val (by rfl) (by rfl) ?_
    go_simp; first | done | with_reducible rfl
  simp only [Act.put, planVG, List.setIfInBounds_toArray, List.set_cons_zero, List.set_cons_succ, List.getElem?_cons_zero, List.getElem?_cons_succ]
  refine ⟨?_, ?_⟩
  · as_aux_lemma =>
    intro w hS_ hD
    try clear hS
    clear hS_ hD
    refine s_call ?_ ?_ (by rfl) (by rfl) ?_ ?_
    rotate_left 2
    · go_simp; first | done | with_reducible rfl | (constructor <;> with_reducible rfl)
    · refine MulW_at (IsBits.of hA) (IsBits.of hC) _
  simp only [Act.put, planVG, List.setIfInBounds_toArray, List.set_cons_zero, List.set_cons_succ, List.getElem?_cons_zero, List.getElem?_cons_succ]
  refine ⟨?_, ?_⟩
  · as_aux_lemma =>
    intro w hS_ hD
    try clear hS
    clear hS_ hD
    refine s_call ?_ ?_ (by rfl) (by rfl) ?_ ?_
    rotate_left 2
    · go_simp; first | done | with_reducible rfl | (constructor <;> with_reducible rfl)
    · refine AddW_at (IsWide.of (mulN_w (IsBits.of hA).w (IsBits.of hB).w)) (IsWide.of (mulN_w (IsBits.of hA).w (IsBits.of hC).w)) _
  simp only [Act.put, planVG, List.setIfInBounds_toArray, List.set_cons_zero, List.set_cons_succ, List.getElem?_cons_zero, List.getElem?_cons_succ]
  refine ⟨?_, ?_⟩
  · as_aux_lemma =>
    intro w hS_ hD
    clear hS_ hD
    refine s_val (by rfl) (by rfl) ?_
    go_simp; first | done | with_reducible rfl
  simp only [Act.put, planVG, List.setIfInBounds_toArray, List.set_cons_zero, List.set_cons_succ, List.getElem?_cons_zero, List.getElem?_cons_succ]
  refine ⟨?_, ?_⟩
  · as_aux_lemma =>
    intro w hS_ hD
    clear hS_ hD
    refine s_val (by rfl) (by rfl) ?_
    go_simp; first | done | with_reducible rfl
  simp only [Act.put, planVG, List.setIfInBounds_toArray, List.set_cons_zero, List.set_cons_succ, List.getElem?_cons_zero, List.getElem?_cons_succ]
  refine ⟨?_, ?_⟩
  · as_aux_lemma =>
    intro w hS_ hD
    clear hS_ hD
    refine s_val (by rfl) (by rfl) ?_
    go_simp; first | done | with_reducible rfl
  simp only [Act.put, planVG, List.setIfInBounds_toArray, List.set_cons_zero, List.set_cons_succ, List.getElem?_cons_zero, List.getElem?_cons_succ]
  refine ⟨?_, ?_⟩
  · as_aux_lemma =>
    intro w hS_ hD
    clear hS_ hD
    refine s_alloc (by rfl) (by rfl) ?_
    simp only [allocTy]
    go_simp; first | done | with_reducible rfl | rfl
  simp only [Act.put, planVG, List.setIfInBounds_toArray, List.set_cons_zero, List.set_cons_succ, List.getElem?_cons_zero, List.getElem?_cons_succ]
  refine ⟨?_, ?_⟩
  · as_aux_lemma =>
    intro w hS_ hD
    have hS := hS_ (by rfl)
    clear hS hS_ hD
    refine s_put (by rfl) (by rfl) (by rfl) ?_
    intro b hb hB F
    have Q := F.cell
    have q0 := Q 0 _ rfl
    have q1 := Q 1 _ rfl
    have q2 := Q 2 _ rfl
    have q3 := Q 3 _ rfl
    have Qf := F.free
    have Ql := F.lt
    clear Q F
    simp only [putCells]
    go_simp; first | done | with_reducible rfl | rfl
  simp only [Act.put, planVG, List.setIfInBounds_toArray, List.set_cons_zero, List.set_cons_succ, List.getElem?_cons_zero, List.getElem?_cons_succ]
  refine ⟨?_, ?_⟩
  · as_aux_lemma =>
    intro w hS_ hD
    clear hS_ hD
    refine s_val (by rfl) (by rfl) ?_
    go_simp; first | done | with_reducible rfl
  simp only [Act.put, planVG, List.setIfInBounds_toArray, List.set_cons_zero, List.set_cons_succ, List.getElem?_cons_zero, List.getElem?_cons_succ]
  as_aux_lemma =>
    intro w2 hS hF hD_
    change wpList _ _ _ _ _ _
    replace hS := sg_no (by decide) hS
    obtain ⟨hk, hZ2, X1, X2, X3, X4⟩ := hS
    obtain ⟨v2_10, e_v2_10, hv2_10, Bv2_10⟩ : ∃ b, ρ 10 = .pointer (some ⟨b, 0, none⟩) ∧ w1.heap.size + 1 ≤ b ∧ Box w2 b #[.int .u64 (limb 0 (add256 (mulN A B) (mulN A C))), .int .u64 (limb 1 (add256 (mulN A B) (mulN A C))), .int .u64 (limb 2 (add256 (mulN A B) (mulN A C))), .int .u64 (limb 3 (add256 (mulN A B) (mulN A C)))] := by
      obtain ⟨b, h1, h2, h3⟩ := hF 10 (by decide)
      exact ⟨b, h1, h2, h3.lt, h3.cell, h3.free⟩
    clear hF hD_
    simp only [e_v2_10]
    clear e_v2_10
    clear ρ
    have hz_w2 := hk.size
    have X1l := X1.lt
    have X1f := X1.free
    have X1l1 : w.heap.size < w2.heap.size + 1 := by omega
    have X1l2 : w.heap.size < w2.heap.size + 1 + 1 := by omega
    have X1l3 : w.heap.size < w2.heap.size + 1 + 1 + 1 := by omega
    have X10 := X1.cell 0 _ rfl
    have X11 := X1.cell 1 _ rfl
    have X2l := X2.lt
    have X2f := X2.free
    have X2l1 : w.heap.size + 1 < w2.heap.size + 1 := by omega
    have X2l2 : w.heap.size + 1 < w2.heap.size + 1 + 1 := by omega
    have X2l3 : w.heap.size + 1 < w2.heap.size + 1 + 1 + 1 := by omega
    have X20 := X2.cell 0 _ rfl
    have X21 := X2.cell 1 _ rfl
    have X3l := X3.lt
    have X3f := X3.free
    have X3l1 : w.heap.size + 1 + 1 < w2.heap.size + 1 := by omega
    have X3l2 : w.heap.size + 1 + 1 < w2.heap.size + 1 + 1 := by omega
    have X3l3 : w.heap.size + 1 + 1 < w2.heap.size + 1 + 1 + 1 := by omega
    have X30 := X3.cell 0 _ rfl
    have X31 := X3.cell 1 _ rfl
    have X4l := X4.lt
    have X4f := X4.free
    have X4l1 : w1.heap.size < w2.heap.size + 1 := by omega
    have X4l2 : w1.heap.size < w2.heap.size + 1 + 1 := by omega
    have X4l3 : w1.heap.size < w2.heap.size + 1 + 1 + 1 := by omega
    have X40 := X4.cell 0 _ rfl
    have X41 := X4.cell 1 _ rfl
    have Bv2_10l := Bv2_10.lt
    have Bv2_10f := Bv2_10.free
    have Bv2_10l1 : v2_10 < w2.heap.size + 1 := by omega
    have Bv2_10l2 : v2_10 < w2.heap.size + 1 + 1 := by omega
    have Bv2_10l3 : v2_10 < w2.heap.size + 1 + 1 + 1 := by omega
    have Bv2_100 := Bv2_10.cell 0 _ rfl
    have Bv2_101 := Bv2_10.cell 1 _ rfl
    have Bv2_102 := Bv2_10.cell 2 _ rfl
    have Bv2_103 := Bv2_10.cell 3 _ rfl
    go_wp2_with fail
    (with_reducible refine (MulW_at (IsBits.of hA) (IsBits.of (add128_w _ _)) _).mono ?_)
    rintro e w3 ⟨rfl, hb⟩
    have X1' : Box w3 (w.heap.size) #[.int .u64 (limb 1 A), .int .u64 (limb 0 A)] := Box.call hb (by repeat (first | with_reducible assumption | with_reducible apply Box.set10 | with_reducible apply Box.set20 | with_reducible apply Box.set21 | with_reducible apply Box.set40 | with_reducible apply Box.set41 | with_reducible apply Box.set42 | with_reducible apply Box.set43 | with_reducible apply Box.set50 | with_reducible apply Box.set51 | with_reducible apply Box.set52 | with_reducible apply Box.set53 | with_reducible apply Box.set54 | with_reducible apply Box.drew | (with_reducible apply Box.newAt; (try simp only [World.size_alloc, World.size_setCell, World.size_drew]); done) | with_reducible apply Box.alloc | (with_reducible apply Box.other; case hne => ((try simp only [World.size_alloc, World.size_setCell, World.size_drew]); omega))))
    have X2' : Box w3 (w.heap.size + 1) #[.int .u64 (limb 1 B), .int .u64 (limb 0 B)] := Box.call hb (by repeat (first | with_reducible assumption | with_reducible apply Box.set10 | with_reducible apply Box.set20 | with_reducible apply Box.set21 | with_reducible apply Box.set40 | with_reducible apply Box.set41 | with_reducible apply Box.set42 | with_reducible apply Box.set43 | with_reducible apply Box.set50 | with_reducible apply Box.set51 | with_reducible apply Box.set52 | with_reducible apply Box.set53 | with_reducible apply Box.set54 | with_reducible apply Box.drew | (with_reducible apply Box.newAt; (try simp only [World.size_alloc, World.size_setCell, World.size_drew]); done) | with_reducible apply Box.alloc | (with_reducible apply Box.other; case hne => ((try simp only [World.size_alloc, World.size_setCell, World.size_drew]); omega))))
    have Bv2_10' : Box w3 (v2_10) #[.int .u64 (limb 0 (add256 (mulN A B) (mulN A C))), .int .u64 (limb 1 (add256 (mulN A B) (mulN A C))), .int .u64 (limb 2 (add256 (mulN A B) (mulN A C))), .int .u64 (limb 3 (add256 (mulN A B) (mulN A C)))] := Box.call hb (by repeat (first | with_reducible assumption | with_reducible apply Box.set10 | with_reducible apply Box.set20 | with_reducible apply Box.set21 | with_reducible apply Box.set40 | with_reducible apply Box.set41 | with_reducible apply Box.set42 | with_reducible apply Box.set43 | with_reducible apply Box.set50 | with_reducible apply Box.set51 | with_reducible apply Box.set52 | with_reducible apply Box.set53 | with_reducible apply Box.set54 | with_reducible apply Box.drew | (with_reducible apply Box.newAt; (try simp only [World.size_alloc, World.size_setCell, World.size_drew]); done) | with_reducible apply Box.alloc | (with_reducible apply Box.other; case hne => ((try simp only [World.size_alloc, World.size_setCell, World.size_drew]); omega))))
    have hk' : Kept w.heap.size w w3 := Kept.step (by repeat (first | with_reducible exact hk | with_reducible exact Kept.refl _ | with_reducible refine Kept.alloc ?_ _ | with_reducible refine Kept.drew ?_ | with_reducible refine Kept.setCell ?_ (by simp only [World.size_alloc, World.size_setCell, World.size_drew]; omega) _)) hb
    clear hk hb
    clear X1 X1l1 X1l2 X1l3 X1f X10 X11
    clear X2 X2l1 X2l2 X2l3 X2f X20 X21
    clear X3 X3l1 X3l2 X3l3 X3f X30 X31
    clear X4 X4l1 X4l2 X4l3 X4f X40 X41
    clear Bv2_10 Bv2_10l1 Bv2_10l2 Bv2_10l3 Bv2_10f Bv2_100 Bv2_101 Bv2_102 Bv2_103
    have X1 := X1'
    clear X1'
    have X2 := X2'
    clear X2'
    have Bv2_10 := Bv2_10'
    clear Bv2_10'
    have hk := hk'
    clear hk'
    have hz_w3 := hk.size
    have X1l := X1.lt
    have X1f := X1.free
    have X1l1 : w.heap.size < w3.heap.size + 1 := by omega
    have X1l2 : w.heap.size < w3.heap.size + 1 + 1 := by omega
    have X1l3 : w.heap.size < w3.heap.size + 1 + 1 + 1 := by omega
    have X10 := X1.cell 0 _ rfl
    have X11 := X1.cell 1 _ rfl
    have X2l := X2.lt
    have X2f := X2.free
    have X2l1 : w.heap.size + 1 < w3.heap.size + 1 := by omega
    have X2l2 : w.heap.size + 1 < w3.heap.size + 1 + 1 := by omega
    have X2l3 : w.heap.size + 1 < w3.heap.size + 1 + 1 + 1 := by omega
    have X20 := X2.cell 0 _ rfl
    have X21 := X2.cell 1 _ rfl
    have Bv2_10l := Bv2_10.lt
    have Bv2_10f := Bv2_10.free
    have Bv2_10l1 : v2_10 < w3.heap.size + 1 := by omega
    have Bv2_10l2 : v2_10 < w3.heap.size + 1 + 1 := by omega
    have Bv2_10l3 : v2_10 < w3.heap.size + 1 + 1 + 1 := by omega
    have Bv2_100 := Bv2_10.cell 0 _ rfl
    have Bv2_101 := Bv2_10.cell 1 _ rfl
    have Bv2_102 := Bv2_10.cell 2 _ rfl
    have Bv2_103 := Bv2_10.cell 3 _ rfl
    go_wp2
    refine wp_region_g 35 (fun W' => Kept w.heap.size w W' ∧ w3.heap.size + 1 ≤ W'.heap.size ∧ Box W' (w.heap.size) #[.int .u64 (limb 1 A), .int .u64 (limb 0 A)] ∧ Box W' (w.heap.size + 1) #[.int .u64 (limb 1 B), .int .u64 (limb 0 B)] ∧ Box W' (v2_10) #[.int .u64 (limb 0 (add256 (mulN A B) (mulN A C))), .int .u64 (limb 1 (add256 (mulN A B) (mulN A C))), .int .u64 (limb 2 (add256 (mulN A B) (mulN A C))), .int .u64 (limb 3 (add256 (mulN A B) (mulN A C)))] ∧ Box W' (w3.heap.size) #[.int .u64 (limb 0 (mulN A (add128 B C))), .int .u64 (limb 1 (mulN A (add128 B C))), .int .u64 (limb 2 (mulN A (add128 B C))), .int .u64 (limb 3 (mulN A (add128 B C)))]) (fun W' => Kept w.heap.size w W' ∧ w3.heap.size + 1 ≤ W'.heap.size ∧ Box W' (w.heap.size) #[.int .u64 (limb 1 A), .int .u64 (limb 0 A)] ∧ Box W' (w.heap.size + 1) #[.int .u64 (limb 1 B), .int .u64 (limb 0 B)] ∧ Box W' (v2_10) #[.int .u64 (limb 0 (add256 (mulN A B) (mulN A C))), .int .u64 (limb 1 (add256 (mulN A B) (mulN A C))), .int .u64 (limb 2 (add256 (mulN A B) (mulN A C))), .int .u64 (limb 3 (add256 (mulN A B) (mulN A C)))] ∧ Box W' (w3.heap.size) #[.int .u64 (limb 0 (mulN A (add128 B C))), .int .u64 (limb 1 (mulN A (add128 B C))), .int .u64 (limb 2 (mulN A (add128 B C))), .int .u64 (limb 3 (mulN A (add128 B C)))]) 1000 (w3.heap.size + 1) [.known (wideV (add256 (mulN A B) (mulN A C))), .known (wideV (mulN A (add128 B C))), .known (.bool true), .known (.bool true), .known (bitsV A), .known (bitsV B), .known (wideV (mulN A B)), .known (bitsV B), .known (bitsV A), .known (wideV (mulN B A)), .known (.bool true), .known (.bool true), .known (.bool true), .known (bitsV A), .known (.agg #[.int .u64 0, .int .u64 1]), .known (wideV (mulN A (val2 1 0))), .known (bitsV A), .known (wideV A), .known (.bool true), .known (.bool true), .known (.bool true), .known (bitsV A), .known (.agg #[.int .u64 1, .int .u64 0]), .known (wideV (mulN A (val2 0 1))), .known (.pointer (some ⟨w.heap.size, 1, none⟩)), .known (.int .u64 (limb 0 A)), .known (.pointer (some ⟨w.heap.size, 0, none⟩)), .known (.int .u64 (limb 1 A)), .known (.agg #[.int .u64 0, .int .u64 (limb 0 A), .int .u64 (limb 1 A), .int .u64 0]), .known (.bool true), .known (.bool true), .known (.bool true), .known (.bool true), .known (.bool true), .known (.bool true)] (by kernel_rfl) (by kernel_rfl) (fun W W' h hb => ⟨h.1.step hb, Nat.le_trans (h.2.1) hb.size, Box.call hb (h.2.2.1), Box.call hb (h.2.2.2.1), Box.call hb (h.2.2.2.2.1), Box.call hb (h.2.2.2.2.2)⟩) (fun W W' h hb => ⟨h.1.step hb, Nat.le_trans (h.2.1) hb.size, Box.call hb (h.2.2.1), Box.call hb (h.2.2.2.1), Box.call hb (h.2.2.2.2.1), Box.call hb (h.2.2.2.2.2)⟩) (no_out (of_decide_eq_true (by kernel_rfl))) (.inl (by kernel_rfl)) (.inl (by kernel_rfl)) (fun _ h => h.2.1) (fun _ h => h.2.1) (⟨(by repeat (first | with_reducible exact hk | with_reducible exact Kept.refl _ | with_reducible refine Kept.alloc ?_ _ | with_reducible refine Kept.drew ?_ | with_reducible refine Kept.setCell ?_ (by simp only [World.size_alloc, World.size_setCell, World.size_drew]; omega) _)), (by simp only [World.size_alloc, World.size_setCell, World.size_drew]; omega), (by repeat (first | with_reducible assumption | with_reducible apply Box.set10 | with_reducible apply Box.set20 | with_reducible apply Box.set21 | with_reducible apply Box.set40 | with_reducible apply Box.set41 | with_reducible apply Box.set42 | with_reducible apply Box.set43 | with_reducible apply Box.set50 | with_reducible apply Box.set51 | with_reducible apply Box.set52 | with_reducible apply Box.set53 | with_reducible apply Box.set54 | with_reducible apply Box.drew | (with_reducible apply Box.newAt; (try simp only [World.size_alloc, World.size_setCell, World.size_drew]); done) | with_reducible apply Box.alloc | (with_reducible apply Box.other; case hne => ((try simp only [World.size_alloc, World.size_setCell, World.size_drew]); omega)))), (by repeat (first | with_reducible assumption | with_reducible apply Box.set10 | with_reducible apply Box.set20 | with_reducible apply Box.set21 | with_reducible apply Box.set40 | with_reducible apply Box.set41 | with_reducible apply Box.set42 | with_reducible apply Box.set43 | with_reducible apply Box.set50 | with_reducible apply Box.set51 | with_reducible apply Box.set52 | with_reducible apply Box.set53 | with_reducible apply Box.set54 | with_reducible apply Box.drew | (with_reducible apply Box.newAt; (try simp only [World.size_alloc, World.size_setCell, World.size_drew]); done) | with_reducible apply Box.alloc | (with_reducible apply Box.other; case hne => ((try simp only [World.size_alloc, World.size_setCell, World.size_drew]); omega)))), (by repeat (first | with_reducible assumption | with_reducible apply Box.set10 | with_reducible apply Box.set20 | with_reducible apply Box.set21 | with_reducible apply Box.set40 | with_reducible apply Box.set41 | with_reducible apply Box.set42 | with_reducible apply Box.set43 | with_reducible apply Box.set50 | with_reducible apply Box.set51 | with_reducible apply Box.set52 | with_reducible apply Box.set53 | with_reducible apply Box.set54 | with_reducible apply Box.drew | (with_reducible apply Box.newAt; (try simp only [World.size_alloc, World.size_setCell, World.size_drew]); done) | with_reducible apply Box.alloc | (with_reducible apply Box.other; case hne => ((try simp only [World.size_alloc, World.size_setCell, World.size_drew]); omega)))), (by repeat (first | with_reducible assumption | with_reducible apply Box.set10 | with_reducible apply Box.set20 | with_reducible apply Box.set21 | with_reducible apply Box.set40 | with_reducible apply Box.set41 | with_reducible apply Box.set42 | with_reducible apply Box.set43 | with_reducible apply Box.set50 | with_reducible apply Box.set51 | with_reducible apply Box.set52 | with_reducible apply Box.set53 | with_reducible apply Box.set54 | with_reducible apply Box.drew | (with_reducible apply Box.newAt; (try simp only [World.size_alloc, World.size_setCell, World.size_drew]); done) | with_reducible apply Box.alloc | (with_reducible apply Box.other; case hne => ((try simp only [World.size_alloc, World.size_setCell, World.size_drew]); omega))))⟩) ?_
    clear hk
    clear X1 X1l1 X1l2 X1l3 X1f X10 X11
    clear X2 X2l1 X2l2 X2l3 X2f X20 X21
    clear Bv2_10 Bv2_10l1 Bv2_10l2 Bv2_10l3 Bv2_10f Bv2_100 Bv2_101 Bv2_102 Bv2_103
    intro ρ
    simp only [List.take_succ_cons, List.take_zero, List.drop_succ_cons, List.drop_zero]
    refine ⟨?_, ?_⟩
    · as_aux_lemma =>
      intro w hS_ hD
      have hS := hS_ (by rfl)
      have Q := (hS.2.2.2.2.1).cell
      have q0 := Q 0 _ rfl
      have q1 := Q 1 _ rfl
      have q2 := Q 2 _ rfl
      have q3 := Q 3 _ rfl
      clear Q hS hS_ hD
      refine s_val (by rfl) (by rfl) ?_
      go_simp; first | done | with_reducible rfl
    simp only [Act.put, planVG, List.setIfInBounds_toArray, List.set_cons_zero, List.set_cons_succ, List.getElem?_cons_zero, List.getElem?_cons_succ]
    refine ⟨?_, ?_⟩
    · as_aux_lemma =>
      intro w hS_ hD
      have hS := hS_ (by rfl)
      have Q := (hS.2.2.2.2.2).cell
      have q0 := Q 0 _ rfl
      have q1 := Q 1 _ rfl
      have q2 := Q 2 _ rfl
      have q3 := Q 3 _ rfl
      clear Q hS hS_ hD
      refine s_val (by rfl) (by rfl) ?_
      go_simp; first | done | with_reducible rfl
    simp only [Act.put, planVG, List.setIfInBounds_toArray, List.set_cons_zero, List.set_cons_succ, List.getElem?_cons_zero, List.getElem?_cons_succ]
    refine ⟨?_, ?_⟩
    · as_aux_lemma =>
      intro w hS_ hD
      clear hS_ hD
      refine s_val (by rfl) (by rfl) ?_
      go_simp; first | done | with_reducible rfl
    simp only [Act.put, planVG, List.setIfInBounds_toArray, List.set_cons_zero, List.set_cons_succ, List.getElem?_cons_zero, List.getElem?_cons_succ]
    refine ⟨?_, ?_⟩
    · as_aux_lemma =>
      intro w hS_ hD
      clear hS_ hD
      refine s_val (by rfl) (by rfl) ?_
      go_simp; first | done | with_reducible rfl
    simp only [Act.put, planVG, List.setIfInBounds_toArray, List.set_cons_zero, List.set_cons_succ, List.getElem?_cons_zero, List.getElem?_cons_succ]
    refine ⟨?_, ?_⟩
    · as_aux_lemma =>
      intro w hS_ hD
      have hS := hS_ (by rfl)
      have Q := (hS.2.2.1).cell
      have q0 := Q 0 _ rfl
      have q1 := Q 1 _ rfl
      clear Q hS hS_ hD
      refine s_val (by rfl) (by rfl) ?_
      go_simp; first | done | with_reducible rfl
    simp only [Act.put, planVG, List.setIfInBounds_toArray, List.set_cons_zero, List.set_cons_succ, List.getElem?_cons_zero, List.getElem?_cons_succ]
    refine ⟨?_, ?_⟩
    · as_aux_lemma =>
      intro w hS_ hD
      have hS := hS_ (by rfl)
      have Q := (hS.2.2.2.1).cell
      have q0 := Q 0 _ rfl
      have q1 := Q 1 _ rfl
      clear Q hS hS_ hD
      refine s_val (by rfl) (by rfl) ?_
      go_simp; first | done | with_reducible rfl
    simp only [Act.put, planVG, List.setIfInBounds_toArray, List.set_cons_zero, List.set_cons_succ, List.getElem?_cons_zero, List.getElem?_cons_succ]
    refine ⟨?_, ?_⟩
    · as_aux_lemma =>
      intro w hS_ hD
      try clear hS
      clear hS_ hD
      refine s_call ?_ ?_ (by rfl) (by rfl) ?_ ?_
      rotate_left 2
      · go_simp; first | done | with_reducible rfl | (constructor <;> with_reducible rfl)
      · refine MulW_at (IsBits.of hA) (IsBits.of hB) _
    simp only [Act.put, planVG, List.setIfInBounds_toArray, List.set_cons_zero, List.set_cons_succ, List.getElem?_cons_zero, List.getElem?_cons_succ]
    refine ⟨?_, ?_⟩
    · as_aux_lemma =>
      intro w hS_ hD
      have hS := hS_ (by rfl)
      have Q := (hS.2.2.2.1).cell
      have q0 := Q 0 _ rfl
      have q1 := Q 1 _ rfl
      clear Q hS hS_ hD
      refine s_val (by rfl) (by rfl) ?_
      go_simp; first | done | with_reducible rfl
    simp only [Act.put, planVG, List.setIfInBounds_toArray, List.set_cons_zero, List.set_cons_succ, List.getElem?_cons_zero, List.getElem?_cons_succ]
    refine ⟨?_, ?_⟩
    · as_aux_lemma =>
      intro w hS_ hD
      have hS := hS_ (by rfl)
      have Q := (hS.2.2.1).cell
      have q0 := Q 0 _ rfl
      have q1 := Q 1 _ rfl
      clear Q hS hS_ hD
      refine s_val (by rfl) (by rfl) ?_
      go_simp; first | done | with_reducible rfl
    simp only [Act.put, planVG, List.setIfInBounds_toArray, List.set_cons_zero, List.set_cons_succ, List.getElem?_cons_zero, List.getElem?_cons_succ]
    refine ⟨?_, ?_⟩
    · as_aux_lemma =>
      intro w hS_ hD
      try clear hS
      clear hS_ hD
      refine s_call ?_ ?_ (by rfl) (by rfl) ?_ ?_
      rotate_left 2
      · go_simp; first | done | with_reducible rfl | (constructor <;> with_reducible rfl)
      · refine MulW_at (IsBits.of hB) (IsBits.of hA) _
    simp only [Act.put, planVG, List.setIfInBounds_toArray, List.set_cons_zero, List.set_cons_succ, List.getElem?_cons_zero, List.getElem?_cons_succ]
    refine ⟨?_, ?_⟩
    · as_aux_lemma =>
      intro w hS_ hD
      clear hS_ hD
      refine s_val (by rfl) (by rfl) ?_
      go_simp; first | done | with_reducible rfl
    simp only [Act.put, planVG, List.setIfInBounds_toArray, List.set_cons_zero, List.set_cons_succ, List.getElem?_cons_zero, List.getElem?_cons_succ]
    refine ⟨?_, ?_⟩
    · as_aux_lemma =>
      intro w hS_ hD
      clear hS_ hD
      refine s_val (by rfl) (by rfl) ?_
      go_simp; first | done | with_reducible rfl
    simp only [Act.put, planVG, List.setIfInBounds_toArray, List.set_cons_zero, List.set_cons_succ, List.getElem?_cons_zero, List.getElem?_cons_succ]
    refine ⟨?_, ?_⟩
    · as_aux_lemma =>
      intro w hS_ hD
      clear hS_ hD
      refine s_val (by rfl) (by rfl) ?_
      go_simp; first | done | with_reducible rfl
    simp only [Act.put, planVG, List.setIfInBounds_toArray, List.set_cons_zero, List.set_cons_succ, List.getElem?_cons_zero, List.getElem?_cons_succ]
    refine ⟨?_, ?_⟩
    · as_aux_lemma =>
      intro w hS_ hD
      have hS := hS_ (by rfl)
      have Q := (hS.2.2.1).cell
      have q0 := Q 0 _ rfl
      have q1 := Q 1 _ rfl
      clear Q hS hS_ hD
      refine s_val (by rfl) (by rfl) ?_
      go_simp; first | done | with_reducible rfl
    simp only [Act.put, planVG, List.setIfInBounds_toArray, List.set_cons_zero, List.set_cons_succ, List.getElem?_cons_zero, List.getElem?_cons_succ]
    refine ⟨?_, ?_⟩
    · as_aux_lemma =>
      intro w hS_ hD
      clear hS_ hD
      refine s_val (by rfl) (by rfl) ?_
      go_simp; first | done | with_reducible rfl
    simp only [Act.put, planVG, List.setIfInBounds_toArray, List.set_cons_zero, List.set_cons_succ, List.getElem?_cons_zero, List.getElem?_cons_succ]
    refine ⟨?_, ?_⟩
    · as_aux_lemma =>
      intro w hS_ hD
      try clear hS
      clear hS_ hD
      refine s_call ?_ ?_ (by rfl) (by rfl) ?_ ?_
      rotate_left 2
      · go_simp; first | done | with_reducible rfl | (constructor <;> with_reducible rfl)
      · refine MulW_at (IsBits.of hA) (IsBits.val u64_zero (isU64_mk (by decide +kernel))) _
    simp only [Act.put, planVG, List.setIfInBounds_toArray, List.set_cons_zero, List.set_cons_succ, List.getElem?_cons_zero, List.getElem?_cons_succ]
    refine ⟨?_, ?_⟩
    · as_aux_lemma =>
      intro w hS_ hD
      have hS := hS_ (by rfl)
      have Q := (hS.2.2.1).cell
      have q0 := Q 0 _ rfl
      have q1 := Q 1 _ rfl
      clear Q hS hS_ hD
      refine s_val (by rfl) (by rfl) ?_
      go_simp; first | done | with_reducible rfl
    simp only [Act.put, planVG, List.setIfInBounds_toArray, List.set_cons_zero, List.set_cons_succ, List.getElem?_cons_zero, List.getElem?_cons_succ]
    refine ⟨?_, ?_⟩
    · as_aux_lemma =>
      intro w hS_ hD
      try clear hS
      clear hS_ hD
      refine s_call ?_ ?_ (by rfl) (by rfl) ?_ ?_
      rotate_left 2
      · go_simp; first | done | with_reducible rfl | (constructor <;> with_reducible rfl)
      · refine Of_at (IsBits.of hA) _
    simp only [Act.put, planVG, List.setIfInBounds_toArray, List.set_cons_zero, List.set_cons_succ, List.getElem?_cons_zero, List.getElem?_cons_succ]
    refine ⟨?_, ?_⟩
    · as_aux_lemma =>
      intro w hS_ hD
      clear hS_ hD
      refine s_val (by rfl) (by rfl) ?_
      go_simp; first | done | with_reducible rfl
    simp only [Act.put, planVG, List.setIfInBounds_toArray, List.set_cons_zero, List.set_cons_succ, List.getElem?_cons_zero, List.getElem?_cons_succ]
    refine ⟨?_, ?_⟩
    · as_aux_lemma =>
      intro w hS_ hD
      clear hS_ hD
      refine s_val (by rfl) (by rfl) ?_
      go_simp; first | done | with_reducible rfl
    simp only [Act.put, planVG, List.setIfInBounds_toArray, List.set_cons_zero, List.set_cons_succ, List.getElem?_cons_zero, List.getElem?_cons_succ]
    refine ⟨?_, ?_⟩
    · as_aux_lemma =>
      intro w hS_ hD
      clear hS_ hD
      refine s_val (by rfl) (by rfl) ?_
      go_simp; first | done | with_reducible rfl
    simp only [Act.put, planVG, List.setIfInBounds_toArray, List.set_cons_zero, List.set_cons_succ, List.getElem?_cons_zero, List.getElem?_cons_succ]
    refine ⟨?_, ?_⟩
    · as_aux_lemma =>
      intro w hS_ hD
      have hS := hS_ (by rfl)
      have Q := (hS.2.2.1).cell
      have q0 := Q 0 _ rfl
      have q1 := Q 1 _ rfl
      clear Q hS hS_ hD
      refine s_val (by rfl) (by rfl) ?_
      go_simp; first | done | with_reducible rfl
    simp only [Act.put, planVG, List.setIfInBounds_toArray, List.set_cons_zero, List.set_cons_succ, List.getElem?_cons_zero, List.getElem?_cons_succ]
    refine ⟨?_, ?_⟩
    · as_aux_lemma =>
      intro w hS_ hD
      clear hS_ hD
      refine s_val (by rfl) (by rfl) ?_
      go_simp; first | done | with_reducible rfl
    simp only [Act.put, planVG, List.setIfInBounds_toArray, List.set_cons_zero, List.set_cons_succ, List.getElem?_cons_zero, List.getElem?_cons_succ]
    refine ⟨?_, ?_⟩
    · as_aux_lemma =>
      intro w hS_ hD
      try clear hS
      clear hS_ hD
      refine s_call ?_ ?_ (by rfl) (by rfl) ?_ ?_
      rotate_left 2
      · go_simp; first | done | with_reducible rfl | (constructor <;> with_reducible rfl)
      · refine MulW_at (IsBits.of hA) (IsBits.val (isU64_mk (by decide +kernel)) u64_zero) _
    simp only [Act.put, planVG, List.setIfInBounds_toArray, List.set_cons_zero, List.set_cons_succ, List.getElem?_cons_zero, List.getElem?_cons_succ]
    refine ⟨?_, ?_⟩
    · as_aux_lemma =>
      intro w hS_ hD
      clear hS_ hD
      refine s_val (by rfl) (by rfl) ?_
      go_simp; first | done | with_reducible rfl
    simp only [Act.put, planVG, List.setIfInBounds_toArray, List.set_cons_zero, List.set_cons_succ, List.getElem?_cons_zero, List.getElem?_cons_succ]
    refine ⟨?_, ?_⟩
    · as_aux_lemma =>
      intro w hS_ hD
      have hS := hS_ (by rfl)
      have Q := (hS.2.2.1).cell
      have q0 := Q 0 _ rfl
      have q1 := Q 1 _ rfl
      clear Q hS hS_ hD
      refine s_val (by rfl) (by rfl) ?_
      go_simp; first | done | with_reducible rfl
    simp only [Act.put, planVG, List.setIfInBounds_toArray, List.set_cons_zero, List.set_cons_succ, List.getElem?_cons_zero, List.getElem?_cons_succ]
    refine ⟨?_, ?_⟩
    · as_aux_lemma =>
      intro w hS_ hD
      clear hS_ hD
      refine s_val (by rfl) (by rfl) ?_
      go_simp; first | done | with_reducible rfl
    simp only [Act.put, planVG, List.setIfInBounds_toArray, List.set_cons_zero, List.set_cons_succ, List.getElem?_cons_zero, List.getElem?_cons_succ]
    refine ⟨?_, ?_⟩
    · as_aux_lemma =>
      intro w hS_ hD
      have hS := hS_ (by rfl)
      have Q := (hS.2.2.1).cell
      have q0 := Q 0 _ rfl
      have q1 := Q 1 _ rfl
      clear Q hS hS_ hD
      refine s_val (by rfl) (by rfl) ?_
      go_simp; first | done | with_reducible rfl
    simp only [Act.put, planVG, List.setIfInBounds_toArray, List.set_cons_zero, List.set_cons_succ, List.getElem?_cons_zero, List.getElem?_cons_succ]
    refine ⟨?_, ?_⟩
    · as_aux_lemma =>
      intro w hS_ hD
      clear hS_ hD
      refine s_val (by rfl) (by rfl) ?_
      go_simp; first | done | with_reducible rfl
    simp only [Act.put, planVG, List.setIfInBounds_toArray, List.set_cons_zero, List.set_cons_succ, List.getElem?_cons_zero, List.getElem?_cons_succ]
    refine ⟨?_, ?_⟩
    · as_aux_lemma =>
      intro w hS_ hD
      clear hS_ hD
      refine s_val (by rfl) (by rfl) ?_
      go_simp; first | done | with_reducible rfl
    simp only [Act.put, planVG, List.setIfInBounds_toArray, List.set_cons_zero, List.set_cons_succ, List.getElem?_cons_zero, List.getElem?_cons_succ]
    refine ⟨?_, ?_⟩
    · as_aux_lemma =>
      intro w hS_ hD
      clear hS_ hD
      refine s_val (by rfl) (by rfl) ?_
      go_simp; first | done | with_reducible rfl
    simp only [Act.put, planVG, List.setIfInBounds_toArray, List.set_cons_zero, List.set_cons_succ, List.getElem?_cons_zero, List.getElem?_cons_succ]
    refine ⟨?_, ?_⟩
    · as_aux_lemma =>
      intro w hS_ hD
      clear hS_ hD
      refine s_val (by rfl) (by rfl) ?_
      go_simp; first | done | with_reducible rfl
    simp only [Act.put, planVG, List.setIfInBounds_toArray, List.set_cons_zero, List.set_cons_succ, List.getElem?_cons_zero, List.getElem?_cons_succ]
    refine ⟨?_, ?_⟩
    · as_aux_lemma =>
      intro w hS_ hD
      try clear hS
      clear hS_ hD
      refine s_call ?_ ?_ (by rfl) (by rfl) ?_ ?_
      rotate_left 2
      · go_simp; first | done | with_reducible rfl | (constructor <;> with_reducible rfl)
      · refine counts02_any _
    simp only [Act.put, planVG, List.setIfInBounds_toArray, List.set_cons_zero, List.set_cons_succ, List.getElem?_cons_zero, List.getElem?_cons_succ]
    refine ⟨?_, ?_⟩
    · as_aux_lemma =>
      intro w hS_ hD
      clear hS_ hD
      refine s_val (by rfl) (by rfl) ?_
      go_simp; first | done | with_reducible rfl
    simp only [Act.put, planVG, List.setIfInBounds_toArray, List.set_cons_zero, List.set_cons_succ, List.getElem?_cons_zero, List.getElem?_cons_succ]
    refine ⟨?_, ?_⟩
    · as_aux_lemma =>
      intro w hS_ hD
      clear hS_ hD
      refine s_val (by rfl) (by rfl) ?_
      go_simp; first | done | with_reducible rfl
    simp only [Act.put, planVG, List.setIfInBounds_toArray, List.set_cons_zero, List.set_cons_succ, List.getElem?_cons_zero, List.getElem?_cons_succ]
    as_aux_lemma =>
      intro w4 hS hF hD_
      change wpList _ _ _ _ _ _
      replace hS := sg_no (by decide) hS
      obtain ⟨hk, hZ4, X1, X2, Bv2_10, X5⟩ := hS
      clear hF hD_
      clear ρ
      have hz_w4 := hk.size
      have X1l := X1.lt
      have X1f := X1.free
      have X1l1 : w.heap.size < w4.heap.size + 1 := by omega
      have X1l2 : w.heap.size < w4.heap.size + 1 + 1 := by omega
      have X1l3 : w.heap.size < w4.heap.size + 1 + 1 + 1 := by omega
      have X10 := X1.cell 0 _ rfl
      have X11 := X1.cell 1 _ rfl
      have X2l := X2.lt
      have X2f := X2.free
      have X2l1 : w.heap.size + 1 < w4.heap.size + 1 := by omega
      have X2l2 : w.heap.size + 1 < w4.heap.size + 1 + 1 := by omega
      have X2l3 : w.heap.size + 1 < w4.heap.size + 1 + 1 + 1 := by omega
      have X20 := X2.cell 0 _ rfl
      have X21 := X2.cell 1 _ rfl
      have Bv2_10l := Bv2_10.lt
      have Bv2_10f := Bv2_10.free
      have Bv2_10l1 : v2_10 < w4.heap.size + 1 := by omega
      have Bv2_10l2 : v2_10 < w4.heap.size + 1 + 1 := by omega
      have Bv2_10l3 : v2_10 < w4.heap.size + 1 + 1 + 1 := by omega
      have Bv2_100 := Bv2_10.cell 0 _ rfl
      have Bv2_101 := Bv2_10.cell 1 _ rfl
      have Bv2_102 := Bv2_10.cell 2 _ rfl
      have Bv2_103 := Bv2_10.cell 3 _ rfl
      have X5l := X5.lt
      have X5f := X5.free
      have X5l1 : w3.heap.size < w4.heap.size + 1 := by omega
      have X5l2 : w3.heap.size < w4.heap.size + 1 + 1 := by omega
      have X5l3 : w3.heap.size < w4.heap.size + 1 + 1 + 1 := by omega
      have X50 := X5.cell 0 _ rfl
      have X51 := X5.cell 1 _ rfl
      have X52 := X5.cell 2 _ rfl
      have X53 := X5.cell 3 _ rfl
      go_wp2
      go_ret
      exact ⟨rfl, (by refine Kept.below ?_; repeat (first | with_reducible exact hk | with_reducible exact Kept.refl _ | with_reducible refine Kept.alloc ?_ _ | with_reducible refine Kept.drew ?_ | with_reducible refine Kept.setCell ?_ (by simp only [World.size_alloc, World.size_setCell, World.size_drew]; omega) _))⟩

set_option maxRecDepth 100000 in
set_option maxHeartbeats 8000000 in
theorem WideMul_over {A B C : Nat} (hA : W128 A) (hB : W128 B) (hC : W128 C) (h : carry128 B C = true) (w : World) :
    Calls Try.prog 5 #[bitsV A, bitsV B, bitsV C] w fun e w' => e = .returned (.bool true) ∧ Below w.heap.size w w' := by
  have hk := Kept.refl w
  have f1 := mul_turn A B
  have f2 := mul_one' A
  obtain ⟨U, hU⟩ : ∃ U, A * 2 ^ 64 = U := ⟨_, rfl⟩
  have f3 := (mul_up A).trans hU
  have f4 : limb 0 U = 0 := hU ▸ (wide_mid hA).e0.symm
  have f5 : limb 1 U = limb 0 A := hU ▸ (wide_mid hA).e1.symm
  have f6 : limb 2 U = limb 1 A := hU ▸ (wide_mid hA).e2.symm
  have f7 : limb 3 U = 0 := hU ▸ (wide_mid hA).e3.symm
  clear hU
  have f8 := small_limb A 2 hA.lt (by omega)
  have f9 := small_limb A 3 hA.lt (by omega)
  have e1 := mul_sums_over hA hB hC h
  go_enter Try.func5, Try.ntmps5
  go_wp2_with fail
  (with_reducible refine (Add_at (IsBits.of hB) (IsBits.of hC) _).mono ?_)
  rintro e w1 ⟨rfl, hb⟩
  have X1' : Box w1 (w.heap.size) #[.int .u64 (limb 1 A), .int .u64 (limb 0 A)] := Box.call hb (by repeat (first | with_reducible assumption | with_reducible apply Box.set10 | with_reducible apply Box.set20 | with_reducible apply Box.set21 | with_reducible apply Box.set40 | with_reducible apply Box.set41 | with_reducible apply Box.set42 | with_reducible apply Box.set43 | with_reducible apply Box.set50 | with_reducible apply Box.set51 | with_reducible apply Box.set52 | with_reducible apply Box.set53 | with_reducible apply Box.set54 | with_reducible apply Box.drew | (with_reducible apply Box.newAt; (try simp only [World.size_alloc, World.size_setCell, World.size_drew]); done) | with_reducible apply Box.alloc | (with_reducible apply Box.other; case hne => ((try simp only [World.size_alloc, World.size_setCell, World.size_drew]); omega))))
  have X2' : Box w1 (w.heap.size + 1) #[.int .u64 (limb 1 B), .int .u64 (limb 0 B)] := Box.call hb (by repeat (first | with_reducible assumption | with_reducible apply Box.set10 | with_reducible apply Box.set20 | with_reducible apply Box.set21 | with_reducible apply Box.set40 | with_reducible apply Box.set41 | with_reducible apply Box.set42 | with_reducible apply Box.set43 | with_reducible apply Box.set50 | with_reducible apply Box.set51 | with_reducible apply Box.set52 | with_reducible apply Box.set53 | with_reducible apply Box.set54 | with_reducible apply Box.drew | (with_reducible apply Box.newAt; (try simp only [World.size_alloc, World.size_setCell, World.size_drew]); done) | with_reducible apply Box.alloc | (with_reducible apply Box.other; case hne => ((try simp only [World.size_alloc, World.size_setCell, World.size_drew]); omega))))
  have X3' : Box w1 (w.heap.size + 1 + 1) #[.int .u64 (limb 1 C), .int .u64 (limb 0 C)] := Box.call hb (by repeat (first | with_reducible assumption | with_reducible apply Box.set10 | with_reducible apply Box.set20 | with_reducible apply Box.set21 | with_reducible apply Box.set40 | with_reducible apply Box.set41 | with_reducible apply Box.set42 | with_reducible apply Box.set43 | with_reducible apply Box.set50 | with_reducible apply Box.set51 | with_reducible apply Box.set52 | with_reducible apply Box.set53 | with_reducible apply Box.set54 | with_reducible apply Box.drew | (with_reducible apply Box.newAt; (try simp only [World.size_alloc, World.size_setCell, World.size_drew]); done) | with_reducible apply Box.alloc | (with_reducible apply Box.other; case hne => ((try simp only [World.size_alloc, World.size_setCell, World.size_drew]); omega))))
  have hk' : Kept w.heap.size w w1 := Kept.step (by repeat (first | with_reducible exact hk | with_reducible exact Kept.refl _ | with_reducible refine Kept.alloc ?_ _ | with_reducible refine Kept.drew ?_ | with_reducible refine Kept.setCell ?_ (by simp only [World.size_alloc, World.size_setCell, World.size_drew]; omega) _)) hb
  clear hk hb
  have X1 := X1'
  clear X1'
  have X2 := X2'
  clear X2'
  have X3 := X3'
  clear X3'
  have hk := hk'
  clear hk'
  have hz_w1 := hk.size
  have X1l := X1.lt
  have X1f := X1.free
  have X1l1 : w.heap.size < w1.heap.size + 1 := by omega
  have X1l2 : w.heap.size < w1.heap.size + 1 + 1 := by omega
  have X1l3 : w.heap.size < w1.heap.size + 1 + 1 + 1 := by omega
  have X10 := X1.cell 0 _ rfl
  have X11 := X1.cell 1 _ rfl
  have X2l := X2.lt
  have X2f := X2.free
  have X2l1 : w.heap.size + 1 < w1.heap.size + 1 := by omega
  have X2l2 : w.heap.size + 1 < w1.heap.size + 1 + 1 := by omega
  have X2l3 : w.heap.size + 1 < w1.heap.size + 1 + 1 + 1 := by omega
  have X20 := X2.cell 0 _ rfl
  have X21 := X2.cell 1 _ rfl
  have X3l := X3.lt
  have X3f := X3.free
  have X3l1 : w.heap.size + 1 + 1 < w1.heap.size + 1 := by omega
  have X3l2 : w.heap.size + 1 + 1 < w1.heap.size + 1 + 1 := by omega
  have X3l3 : w.heap.size + 1 + 1 < w1.heap.size + 1 + 1 + 1 := by omega
  have X30 := X3.cell 0 _ rfl
  have X31 := X3.cell 1 _ rfl
  go_wp2
  refine wp_region_g 13 (fun W' => Kept w.heap.size w W' ∧ w1.heap.size + 1 ≤ W'.heap.size ∧ Box W' (w.heap.size) #[.int .u64 (limb 1 A), .int .u64 (limb 0 A)] ∧ Box W' (w.heap.size + 1) #[.int .u64 (limb 1 B), .int .u64 (limb 0 B)] ∧ Box W' (w.heap.size + 1 + 1) #[.int .u64 (limb 1 C), .int .u64 (limb 0 C)] ∧ Box W' (w1.heap.size) #[.int .u64 (limb 1 (add128 B C)), .int .u64 (limb 0 (add128 B C))]) (fun W' => Kept w.heap.size w W' ∧ w1.heap.size + 1 ≤ W'.heap.size ∧ Box W' (w.heap.size) #[.int .u64 (limb 1 A), .int .u64 (limb 0 A)] ∧ Box W' (w.heap.size + 1) #[.int .u64 (limb 1 B), .int .u64 (limb 0 B)] ∧ Box W' (w.heap.size + 1 + 1) #[.int .u64 (limb 1 C), .int .u64 (limb 0 C)] ∧ Box W' (w1.heap.size) #[.int .u64 (limb 1 (add128 B C)), .int .u64 (limb 0 (add128 B C))]) 1000 (w1.heap.size + 1) [.known (bitsV A), .known (bitsV B), .known (wideV (mulN A B)), .known (bitsV A), .known (bitsV C), .known (wideV (mulN A C)), .known (.tuple #[wideV (add256 (mulN A B) (mulN A C)), .bool (carry256 (mulN A B) (mulN A C))]), .known (.tuple #[wideV (add256 (mulN A B) (mulN A C)), .bool (carry256 (mulN A B) (mulN A C))]), .known (wideV (add256 (mulN A B) (mulN A C))), .known (.bool (carry256 (mulN A B) (mulN A C))), .var #[.int .u64 0, .int .u64 0, .int .u64 0, .int .u64 0] 11 [.int .u64 (limb 0 (add256 (mulN A B) (mulN A C))), .int .u64 (limb 1 (add256 (mulN A B) (mulN A C))), .int .u64 (limb 2 (add256 (mulN A B) (mulN A C))), .int .u64 (limb 3 (add256 (mulN A B) (mulN A C)))], .put 10, .known (.bool (carry256 (mulN A B) (mulN A C)))] (by kernel_rfl) (by kernel_rfl) (fun W W' h hb => ⟨h.1.step hb, Nat.le_trans (h.2.1) hb.size, Box.call hb (h.2.2.1), Box.call hb (h.2.2.2.1), Box.call hb (h.2.2.2.2.1), Box.call hb (h.2.2.2.2.2)⟩) (fun W W' h hb => ⟨h.1.step hb, Nat.le_trans (h.2.1) hb.size, Box.call hb (h.2.2.1), Box.call hb (h.2.2.2.1), Box.call hb (h.2.2.2.2.1), Box.call hb (h.2.2.2.2.2)⟩) (no_out (of_decide_eq_true (by kernel_rfl))) (.inr (fun W' b i v hb h => ⟨h.1.setCell (p := ⟨b, i, none⟩) (by simp only []; omega) v, (by rw [World.size_setCell]; exact h.2.1), (h.2.2.1).other (by omega), (h.2.2.2.1).other (by omega), (h.2.2.2.2.1).other (by omega), (h.2.2.2.2.2).other (by omega)⟩)) (.inr (fun W' b i v hb h => ⟨h.1.setCell (p := ⟨b, i, none⟩) (by simp only []; omega) v, (by rw [World.size_setCell]; exact h.2.1), (h.2.2.1).other (by omega), (h.2.2.2.1).other (by omega), (h.2.2.2.2.1).other (by omega), (h.2.2.2.2.2).other (by omega)⟩)) (fun _ h => h.2.1) (fun _ h => h.2.1) (⟨(by repeat (first | with_reducible exact hk | with_reducible exact Kept.refl _ | with_reducible refine Kept.alloc ?_ _ | with_reducible refine Kept.drew ?_ | with_reducible refine Kept.setCell ?_ (by simp only [World.size_alloc, World.size_setCell, World.size_drew]; omega) _)), (by simp only [World.size_alloc, World.size_setCell, World.size_drew]; omega), (by repeat (first | with_reducible assumption | with_reducible apply Box.set10 | with_reducible apply Box.set20 | with_reducible apply Box.set21 | with_reducible apply Box.set40 | with_reducible apply Box.set41 | with_reducible apply Box.set42 | with_reducible apply Box.set43 | with_reducible apply Box.set50 | with_reducible apply Box.set51 | with_reducible apply Box.set52 | with_reducible apply Box.set53 | with_reducible apply Box.set54 | with_reducible apply Box.drew | (with_reducible apply Box.newAt; (try simp only [World.size_alloc, World.size_setCell, World.size_drew]); done) | with_reducible apply Box.alloc | (with_reducible apply Box.other; case hne => ((try simp only [World.size_alloc, World.size_setCell, World.size_drew]); omega)))), (by repeat (first | with_reducible assumption | with_reducible apply Box.set10 | with_reducible apply Box.set20 | with_reducible apply Box.set21 | with_reducible apply Box.set40 | with_reducible apply Box.set41 | with_reducible apply Box.set42 | with_reducible apply Box.set43 | with_reducible apply Box.set50 | with_reducible apply Box.set51 | with_reducible apply Box.set52 | with_reducible apply Box.set53 | with_reducible apply Box.set54 | with_reducible apply Box.drew | (with_reducible apply Box.newAt; (try simp only [World.size_alloc, World.size_setCell, World.size_drew]); done) | with_reducible apply Box.alloc | (with_reducible apply Box.other; case hne => ((try simp only [World.size_alloc, World.size_setCell, World.size_drew]); omega)))), (by repeat (first | with_reducible assumption | with_reducible apply Box.set10 | with_reducible apply Box.set20 | with_reducible apply Box.set21 | with_reducible apply Box.set40 | with_reducible apply Box.set41 | with_reducible apply Box.set42 | with_reducible apply Box.set43 | with_reducible apply Box.set50 | with_reducible apply Box.set51 | with_reducible apply Box.set52 | with_reducible apply Box.set53 | with_reducible apply Box.set54 | with_reducible apply Box.drew | (with_reducible apply Box.newAt; (try simp only [World.size_alloc, World.size_setCell, World.size_drew]); done) | with_reducible apply Box.alloc | (with_reducible apply Box.other; case hne => ((try simp only [World.size_alloc, World.size_setCell, World.size_drew]); omega)))), (by repeat (first | with_reducible assumption | with_reducible apply Box.set10 | with_reducible apply Box.set20 | with_reducible apply Box.set21 | with_reducible apply Box.set40 | with_reducible apply Box.set41 | with_reducible apply Box.set42 | with_reducible apply Box.set43 | with_reducible apply Box.set50 | with_reducible apply Box.set51 | with_reducible apply Box.set52 | with_reducible apply Box.set53 | with_reducible apply Box.set54 | with_reducible apply Box.drew | (with_reducible apply Box.newAt; (try simp only [World.size_alloc, World.size_setCell, World.size_drew]); done) | with_reducible apply Box.alloc | (with_reducible apply Box.other; case hne => ((try simp only [World.size_alloc, World.size_setCell, World.size_drew]); omega))))⟩) ?_
  clear hk
  clear X1 X1l1 X1l2 X1l3 X1f X10 X11
  clear X2 X2l1 X2l2 X2l3 X2f X20 X21
  clear X3 X3l1 X3l2 X3l3 X3f X30 X31
  intro ρ
  simp only [List.take_succ_cons, List.take_zero, List.drop_succ_cons, List.drop_zero]
  refine ⟨?_, ?_⟩
  · as_aux_lemma =>
    intro w hS_ hD
    have hS := hS_ (by rfl)
    have Q := (hS.2.2.1).cell
    have q0 := Q 0 _ rfl
    have q1 := Q 1 _ rfl
    clear Q hS hS_ hD
    refine s_val (by rfl) (by rfl) ?_
    go_simp; first | done | with_reducible rfl
  simp only [Act.put, planVG, List.setIfInBounds_toArray, List.set_cons_zero, List.set_cons_succ, List.getElem?_cons_zero, List.getElem?_cons_succ]
  refine ⟨?_, ?_⟩
  · as_aux_lemma =>
    intro w hS_ hD
    have hS := hS_ (by rfl)
    have Q := (hS.2.2.2.1).cell
    have q0 := Q 0 _ rfl
    have q1 := Q 1 _ rfl
    clear Q hS hS_ hD
    refine s_val (by rfl) (by rfl) ?_
    go_simp; first | done | with_reducible rfl
  simp only [Act.put, planVG, List.setIfInBounds_toArray, List.set_cons_zero, List.set_cons_succ, List.getElem?_cons_zero, List.getElem?_cons_succ]
  refine ⟨?_, ?_⟩
  · as_aux_lemma =>
    intro w hS_ hD
    try clear hS
    clear hS_ hD
    refine s_call ?_ ?_ (by rfl) (by rfl) ?_ ?_
    rotate_left 2
    · go_simp; first | done | with_reducible rfl | (constructor <;> with_reducible rfl)
    · refine MulW_at (IsBits.of hA) (IsBits.of hB) _
  simp only [Act.put, planVG, List.setIfInBounds_toArray, List.set_cons_zero, List.set_cons_succ, List.getElem?_cons_zero, List.getElem?_cons_succ]
  refine ⟨?_, ?_⟩
  · as_aux_lemma =>
    intro w hS_ hD
    have hS := hS_ (by rfl)
    have Q := (hS.2.2.1).cell
    have q0 := Q 0 _ rfl
    have q1 := Q 1 _ rfl
    clear Q hS hS_ hD
    refine s_val (by rfl) (by rfl) ?_
    go_simp; first | done | with_reducible rfl
  simp only [Act.put, planVG, List.setIfInBounds_toArray, List.set_cons_zero, List.set_cons_succ, List.getElem?_cons_zero, List.getElem?_cons_succ]
  refine ⟨?_, ?_⟩
  · as_aux_lemma =>
    intro w hS_ hD
    have hS := hS_ (by rfl)
    have Q := (hS.2.2.2.2.1).cell
    have q0 := Q 0 _ rfl
    have q1 := Q 1 _ rfl
    clear Q hS hS_ hD
    refine s_val (by rfl) (by rfl) ?_
    go_simp; first | done | with_reducible rfl
  simp only [Act.put, planVG, List.setIfInBounds_toArray, List.set_cons_zero, List.set_cons_succ, List.getElem?_cons_zero, List.getElem?_cons_succ]
  refine ⟨?_, ?_⟩
  · as_aux_lemma =>
    intro w hS_ hD
    try clear hS
    clear hS_ hD
    refine s_call ?_ ?_ (by rfl) (by rfl) ?_ ?_
    rotate_left 2
    · go_simp; first | done | with_reducible rfl | (constructor <;> with_reducible rfl)
    · refine MulW_at (IsBits.of hA) (IsBits.of hC) _
  simp only [Act.put, planVG, List.setIfInBounds_toArray, List.set_cons_zero, List.set_cons_succ, List.getElem?_cons_zero, List.getElem?_cons_succ]
  refine ⟨?_, ?_⟩
  · as_aux_lemma =>
    intro w hS_ hD
    try clear hS
    clear hS_ hD
    refine s_call ?_ ?_ (by rfl) (by rfl) ?_ ?_
    rotate_left 2
    · go_simp; first | done | with_reducible rfl | (constructor <;> with_reducible rfl)
    · refine AddW_at (IsWide.of (mulN_w (IsBits.of hA).w (IsBits.of hB).w)) (IsWide.of (mulN_w (IsBits.of hA).w (IsBits.of hC).w)) _
  simp only [Act.put, planVG, List.setIfInBounds_toArray, List.set_cons_zero, List.set_cons_succ, List.getElem?_cons_zero, List.getElem?_cons_succ]
  refine ⟨?_, ?_⟩
  · as_aux_lemma =>
    intro w hS_ hD
    clear hS_ hD
    refine s_val (by rfl) (by rfl) ?_
    go_simp; first | done | with_reducible rfl
  simp only [Act.put, planVG, List.setIfInBounds_toArray, List.set_cons_zero, List.set_cons_succ, List.getElem?_cons_zero, List.getElem?_cons_succ]
  refine ⟨?_, ?_⟩
  · as_aux_lemma =>
    intro w hS_ hD
    clear hS_ hD
    refine s_val (by rfl) (by rfl) ?_
    go_simp; first | done | with_reducible rfl
  simp only [Act.put, planVG, List.setIfInBounds_toArray, List.set_cons_zero, List.set_cons_succ, List.getElem?_cons_zero, List.getElem?_cons_succ]
  refine ⟨?_, ?_⟩
  · as_aux_lemma =>
    intro w hS_ hD
    clear hS_ hD
    refine s_val (by rfl) (by rfl) ?_
    go_simp; first | done | with_reducible rfl
  simp only [Act.put, planVG, List.setIfInBounds_toArray, List.set_cons_zero, List.set_cons_succ, List.getElem?_cons_zero, List.getElem?_cons_succ]
  refine ⟨?_, ?_⟩
  · as_aux_lemma =>
    intro w hS_ hD
    clear hS_ hD
    refine s_alloc (by rfl) (by rfl) ?_
    simp only [allocTy]
    go_simp; first | done | with_reducible rfl | rfl
  simp only [Act.put, planVG, List.setIfInBounds_toArray, List.set_cons_zero, List.set_cons_succ, List.getElem?_cons_zero, List.getElem?_cons_succ]
  refine ⟨?_, ?_⟩
  · as_aux_lemma =>
    intro w hS_ hD
    have hS := hS_ (by rfl)
    clear hS hS_ hD
    refine s_put (by rfl) (by rfl) (by rfl) ?_
    intro b hb hB F
    have Q := F.cell
    have q0 := Q 0 _ rfl
    have q1 := Q 1 _ rfl
    have q2 := Q 2 _ rfl
    have q3 := Q 3 _ rfl
    have Qf := F.free
    have Ql := F.lt
    clear Q F
    simp only [putCells]
    go_simp; first | done | with_reducible rfl | rfl
  simp only [Act.put, planVG, List.setIfInBounds_toArray, List.set_cons_zero, List.set_cons_succ, List.getElem?_cons_zero, List.getElem?_cons_succ]
  refine ⟨?_, ?_⟩
  · as_aux_lemma =>
    intro w hS_ hD
    clear hS_ hD
    refine s_val (by rfl) (by rfl) ?_
    go_simp; first | done | with_reducible rfl
  simp only [Act.put, planVG, List.setIfInBounds_toArray, List.set_cons_zero, List.set_cons_succ, List.getElem?_cons_zero, List.getElem?_cons_succ]
  as_aux_lemma =>
    intro w2 hS hF hD_
    change wpList _ _ _ _ _ _
    replace hS := sg_no (by decide) hS
    obtain ⟨hk, hZ2, X1, X2, X3, X4⟩ := hS
    obtain ⟨v2_10, e_v2_10, hv2_10, Bv2_10⟩ : ∃ b, ρ 10 = .pointer (some ⟨b, 0, none⟩) ∧ w1.heap.size + 1 ≤ b ∧ Box w2 b #[.int .u64 (limb 0 (add256 (mulN A B) (mulN A C))), .int .u64 (limb 1 (add256 (mulN A B) (mulN A C))), .int .u64 (limb 2 (add256 (mulN A B) (mulN A C))), .int .u64 (limb 3 (add256 (mulN A B) (mulN A C)))] := by
      obtain ⟨b, h1, h2, h3⟩ := hF 10 (by decide)
      exact ⟨b, h1, h2, h3.lt, h3.cell, h3.free⟩
    clear hF hD_
    simp only [e_v2_10]
    clear e_v2_10
    clear ρ
    have hz_w2 := hk.size
    have X1l := X1.lt
    have X1f := X1.free
    have X1l1 : w.heap.size < w2.heap.size + 1 := by omega
    have X1l2 : w.heap.size < w2.heap.size + 1 + 1 := by omega
    have X1l3 : w.heap.size < w2.heap.size + 1 + 1 + 1 := by omega
    have X10 := X1.cell 0 _ rfl
    have X11 := X1.cell 1 _ rfl
    have X2l := X2.lt
    have X2f := X2.free
    have X2l1 : w.heap.size + 1 < w2.heap.size + 1 := by omega
    have X2l2 : w.heap.size + 1 < w2.heap.size + 1 + 1 := by omega
    have X2l3 : w.heap.size + 1 < w2.heap.size + 1 + 1 + 1 := by omega
    have X20 := X2.cell 0 _ rfl
    have X21 := X2.cell 1 _ rfl
    have X3l := X3.lt
    have X3f := X3.free
    have X3l1 : w.heap.size + 1 + 1 < w2.heap.size + 1 := by omega
    have X3l2 : w.heap.size + 1 + 1 < w2.heap.size + 1 + 1 := by omega
    have X3l3 : w.heap.size + 1 + 1 < w2.heap.size + 1 + 1 + 1 := by omega
    have X30 := X3.cell 0 _ rfl
    have X31 := X3.cell 1 _ rfl
    have X4l := X4.lt
    have X4f := X4.free
    have X4l1 : w1.heap.size < w2.heap.size + 1 := by omega
    have X4l2 : w1.heap.size < w2.heap.size + 1 + 1 := by omega
    have X4l3 : w1.heap.size < w2.heap.size + 1 + 1 + 1 := by omega
    have X40 := X4.cell 0 _ rfl
    have X41 := X4.cell 1 _ rfl
    have Bv2_10l := Bv2_10.lt
    have Bv2_10f := Bv2_10.free
    have Bv2_10l1 : v2_10 < w2.heap.size + 1 := by omega
    have Bv2_10l2 : v2_10 < w2.heap.size + 1 + 1 := by omega
    have Bv2_10l3 : v2_10 < w2.heap.size + 1 + 1 + 1 := by omega
    have Bv2_100 := Bv2_10.cell 0 _ rfl
    have Bv2_101 := Bv2_10.cell 1 _ rfl
    have Bv2_102 := Bv2_10.cell 2 _ rfl
    have Bv2_103 := Bv2_10.cell 3 _ rfl
    go_wp2_with fail
    (with_reducible refine (MulW_at (IsBits.of hA) (IsBits.of (add128_w _ _)) _).mono ?_)
    rintro e w3 ⟨rfl, hb⟩
    have X1' : Box w3 (w.heap.size) #[.int .u64 (limb 1 A), .int .u64 (limb 0 A)] := Box.call hb (by repeat (first | with_reducible assumption | with_reducible apply Box.set10 | with_reducible apply Box.set20 | with_reducible apply Box.set21 | with_reducible apply Box.set40 | with_reducible apply Box.set41 | with_reducible apply Box.set42 | with_reducible apply Box.set43 | with_reducible apply Box.set50 | with_reducible apply Box.set51 | with_reducible apply Box.set52 | with_reducible apply Box.set53 | with_reducible apply Box.set54 | with_reducible apply Box.drew | (with_reducible apply Box.newAt; (try simp only [World.size_alloc, World.size_setCell, World.size_drew]); done) | with_reducible apply Box.alloc | (with_reducible apply Box.other; case hne => ((try simp only [World.size_alloc, World.size_setCell, World.size_drew]); omega))))
    have X2' : Box w3 (w.heap.size + 1) #[.int .u64 (limb 1 B), .int .u64 (limb 0 B)] := Box.call hb (by repeat (first | with_reducible assumption | with_reducible apply Box.set10 | with_reducible apply Box.set20 | with_reducible apply Box.set21 | with_reducible apply Box.set40 | with_reducible apply Box.set41 | with_reducible apply Box.set42 | with_reducible apply Box.set43 | with_reducible apply Box.set50 | with_reducible apply Box.set51 | with_reducible apply Box.set52 | with_reducible apply Box.set53 | with_reducible apply Box.set54 | with_reducible apply Box.drew | (with_reducible apply Box.newAt; (try simp only [World.size_alloc, World.size_setCell, World.size_drew]); done) | with_reducible apply Box.alloc | (with_reducible apply Box.other; case hne => ((try simp only [World.size_alloc, World.size_setCell, World.size_drew]); omega))))
    have Bv2_10' : Box w3 (v2_10) #[.int .u64 (limb 0 (add256 (mulN A B) (mulN A C))), .int .u64 (limb 1 (add256 (mulN A B) (mulN A C))), .int .u64 (limb 2 (add256 (mulN A B) (mulN A C))), .int .u64 (limb 3 (add256 (mulN A B) (mulN A C)))] := Box.call hb (by repeat (first | with_reducible assumption | with_reducible apply Box.set10 | with_reducible apply Box.set20 | with_reducible apply Box.set21 | with_reducible apply Box.set40 | with_reducible apply Box.set41 | with_reducible apply Box.set42 | with_reducible apply Box.set43 | with_reducible apply Box.set50 | with_reducible apply Box.set51 | with_reducible apply Box.set52 | with_reducible apply Box.set53 | with_reducible apply Box.set54 | with_reducible apply Box.drew | (with_reducible apply Box.newAt; (try simp only [World.size_alloc, World.size_setCell, World.size_drew]); done) | with_reducible apply Box.alloc | (with_reducible apply Box.other; case hne => ((try simp only [World.size_alloc, World.size_setCell, World.size_drew]); omega))))
    have hk' : Kept w.heap.size w w3 := Kept.step (by repeat (first | with_reducible exact hk | with_reducible exact Kept.refl _ | with_reducible refine Kept.alloc ?_ _ | with_reducible refine Kept.drew ?_ | with_reducible refine Kept.setCell ?_ (by simp only [World.size_alloc, World.size_setCell, World.size_drew]; omega) _)) hb
    clear hk hb
    clear X1 X1l1 X1l2 X1l3 X1f X10 X11
    clear X2 X2l1 X2l2 X2l3 X2f X20 X21
    clear X3 X3l1 X3l2 X3l3 X3f X30 X31
    clear X4 X4l1 X4l2 X4l3 X4f X40 X41
    clear Bv2_10 Bv2_10l1 Bv2_10l2 Bv2_10l3 Bv2_10f Bv2_100 Bv2_101 Bv2_102 Bv2_103
    have X1 := X1'
    clear X1'
    have X2 := X2'
    clear X2'
    have Bv2_10 := Bv2_10'
    clear Bv2_10'
    have hk := hk'
    clear hk'
    have hz_w3 := hk.size
    have X1l := X1.lt
    have X1f := X1.free
    have X1l1 : w.heap.size < w3.heap.size + 1 := by omega
    have X1l2 : w.heap.size < w3.heap.size + 1 + 1 := by omega
    have X1l3 : w.heap.size < w3.heap.size + 1 + 1 + 1 := by omega
    have X10 := X1.cell 0 _ rfl
    have X11 := X1.cell 1 _ rfl
    have X2l := X2.lt
    have X2f := X2.free
    have X2l1 : w.heap.size + 1 < w3.heap.size + 1 := by omega
    have X2l2 : w.heap.size + 1 < w3.heap.size + 1 + 1 := by omega
    have X2l3 : w.heap.size + 1 < w3.heap.size + 1 + 1 + 1 := by omega
    have X20 := X2.cell 0 _ rfl
    have X21 := X2.cell 1 _ rfl
    have Bv2_10l := Bv2_10.lt
    have Bv2_10f := Bv2_10.free
    have Bv2_10l1 : v2_10 < w3.heap.size + 1 := by omega
    have Bv2_10l2 : v2_10 < w3.heap.size + 1 + 1 := by omega
    have Bv2_10l3 : v2_10 < w3.heap.size + 1 + 1 + 1 := by omega
    have Bv2_100 := Bv2_10.cell 0 _ rfl
    have Bv2_101 := Bv2_10.cell 1 _ rfl
    have Bv2_102 := Bv2_10.cell 2 _ rfl
    have Bv2_103 := Bv2_10.cell 3 _ rfl
    go_wp2
    refine wp_region_g 9 (fun W' => Kept w.heap.size w W' ∧ w3.heap.size + 1 ≤ W'.heap.size ∧ Box W' (w.heap.size) #[.int .u64 (limb 1 A), .int .u64 (limb 0 A)] ∧ Box W' (w.heap.size + 1) #[.int .u64 (limb 1 B), .int .u64 (limb 0 B)] ∧ Box W' (v2_10) #[.int .u64 (limb 0 (add256 (mulN A B) (mulN A C))), .int .u64 (limb 1 (add256 (mulN A B) (mulN A C))), .int .u64 (limb 2 (add256 (mulN A B) (mulN A C))), .int .u64 (limb 3 (add256 (mulN A B) (mulN A C)))] ∧ Box W' (w3.heap.size) #[.int .u64 (limb 0 (mulN A (add128 B C))), .int .u64 (limb 1 (mulN A (add128 B C))), .int .u64 (limb 2 (mulN A (add128 B C))), .int .u64 (limb 3 (mulN A (add128 B C)))]) (fun W' => Kept w.heap.size w W' ∧ w3.heap.size + 1 ≤ W'.heap.size ∧ Box W' (w.heap.size) #[.int .u64 (limb 1 A), .int .u64 (limb 0 A)] ∧ Box W' (w.heap.size + 1) #[.int .u64 (limb 1 B), .int .u64 (limb 0 B)] ∧ Box W' (v2_10) #[.int .u64 (limb 0 (add256 (mulN A B) (mulN A C))), .int .u64 (limb 1 (add256 (mulN A B) (mulN A C))), .int .u64 (limb 2 (add256 (mulN A B) (mulN A C))), .int .u64 (limb 3 (add256 (mulN A B) (mulN A C)))] ∧ Box W' (w3.heap.size) #[.int .u64 (limb 0 (add256 (mulN A (add128 B C)) (joinN A (val2 0 0)))), .int .u64 (limb 1 (add256 (mulN A (add128 B C)) (joinN A (val2 0 0)))), .int .u64 (limb 2 (add256 (mulN A (add128 B C)) (joinN A (val2 0 0)))), .int .u64 (limb 3 (add256 (mulN A (add128 B C)) (joinN A (val2 0 0))))]) 8 (w3.heap.size + 1) [.known (wideV (mulN A (add128 B C))), .known (bitsV A), .known (.agg #[.int .u64 0, .int .u64 0]), .known (wideV (joinN A (val2 0 0))), .known (.tuple #[wideV (add256 (mulN A (add128 B C)) (joinN A (val2 0 0))), .bool (carry256 (mulN A (add128 B C)) (joinN A (val2 0 0)))]), .known (.tuple #[wideV (add256 (mulN A (add128 B C)) (joinN A (val2 0 0))), .bool (carry256 (mulN A (add128 B C)) (joinN A (val2 0 0)))]), .known (wideV (add256 (mulN A (add128 B C)) (joinN A (val2 0 0)))), .known (.bool (carry256 (mulN A (add128 B C)) (joinN A (val2 0 0)))), .out (w3.heap.size) [.int .u64 (limb 0 (add256 (mulN A (add128 B C)) (joinN A (val2 0 0)))), .int .u64 (limb 1 (add256 (mulN A (add128 B C)) (joinN A (val2 0 0)))), .int .u64 (limb 2 (add256 (mulN A (add128 B C)) (joinN A (val2 0 0)))), .int .u64 (limb 3 (add256 (mulN A (add128 B C)) (joinN A (val2 0 0))))]] (by kernel_rfl) (by kernel_rfl) (fun W W' h hb => ⟨h.1.step hb, Nat.le_trans (h.2.1) hb.size, Box.call hb (h.2.2.1), Box.call hb (h.2.2.2.1), Box.call hb (h.2.2.2.2.1), Box.call hb (h.2.2.2.2.2)⟩) (fun W W' h hb => ⟨h.1.step hb, Nat.le_trans (h.2.1) hb.size, Box.call hb (h.2.2.1), Box.call hb (h.2.2.2.1), Box.call hb (h.2.2.2.2.1), Box.call hb (h.2.2.2.2.2)⟩) (fun b V e => by
      obtain ⟨rfl, rfl⟩ : b = w3.heap.size ∧ V = [.int .u64 (limb 0 (add256 (mulN A (add128 B C)) (joinN A (val2 0 0)))), .int .u64 (limb 1 (add256 (mulN A (add128 B C)) (joinN A (val2 0 0)))), .int .u64 (limb 2 (add256 (mulN A (add128 B C)) (joinN A (val2 0 0)))), .int .u64 (limb 3 (add256 (mulN A (add128 B C)) (joinN A (val2 0 0))))] := by injection e with e; injection e with e1 e2; exact ⟨e1.symm, e2.symm⟩
      exact ⟨by omega, fun w' h => ⟨(by simp only [putCells]; exact ((((h.1).setCell (p := ⟨w3.heap.size, 0, none⟩) (by simp only []; omega) _).setCell (p := ⟨w3.heap.size, 1, none⟩) (by simp only []; omega) _).setCell (p := ⟨w3.heap.size, 2, none⟩) (by simp only []; omega) _).setCell (p := ⟨w3.heap.size, 3, none⟩) (by simp only []; omega) _), (by rw [putCells_size]; exact h.2.1), (by simp only [putCells]; exact ((((h.2.2.1).other (by omega)).other (by omega)).other (by omega)).other (by omega)), (by simp only [putCells]; exact ((((h.2.2.2.1).other (by omega)).other (by omega)).other (by omega)).other (by omega)), (by simp only [putCells]; exact ((((h.2.2.2.2.1).other (by omega)).other (by omega)).other (by omega)).other (by omega)), (by simp only [putCells]; with_reducible apply Box.set43; with_reducible apply Box.set42; with_reducible apply Box.set41; with_reducible apply Box.set40; exact h.2.2.2.2.2)⟩⟩) (.inl (by kernel_rfl)) (.inl (by kernel_rfl)) (fun _ h => h.2.1) (fun _ h => h.2.1) (⟨(by repeat (first | with_reducible exact hk | with_reducible exact Kept.refl _ | with_reducible refine Kept.alloc ?_ _ | with_reducible refine Kept.drew ?_ | with_reducible refine Kept.setCell ?_ (by simp only [World.size_alloc, World.size_setCell, World.size_drew]; omega) _)), (by simp only [World.size_alloc, World.size_setCell, World.size_drew]; omega), (by repeat (first | with_reducible assumption | with_reducible apply Box.set10 | with_reducible apply Box.set20 | with_reducible apply Box.set21 | with_reducible apply Box.set40 | with_reducible apply Box.set41 | with_reducible apply Box.set42 | with_reducible apply Box.set43 | with_reducible apply Box.set50 | with_reducible apply Box.set51 | with_reducible apply Box.set52 | with_reducible apply Box.set53 | with_reducible apply Box.set54 | with_reducible apply Box.drew | (with_reducible apply Box.newAt; (try simp only [World.size_alloc, World.size_setCell, World.size_drew]); done) | with_reducible apply Box.alloc | (with_reducible apply Box.other; case hne => ((try simp only [World.size_alloc, World.size_setCell, World.size_drew]); omega)))), (by repeat (first | with_reducible assumption | with_reducible apply Box.set10 | with_reducible apply Box.set20 | with_reducible apply Box.set21 | with_reducible apply Box.set40 | with_reducible apply Box.set41 | with_reducible apply Box.set42 | with_reducible apply Box.set43 | with_reducible apply Box.set50 | with_reducible apply Box.set51 | with_reducible apply Box.set52 | with_reducible apply Box.set53 | with_reducible apply Box.set54 | with_reducible apply Box.drew | (with_reducible apply Box.newAt; (try simp only [World.size_alloc, World.size_setCell, World.size_drew]); done) | with_reducible apply Box.alloc | (with_reducible apply Box.other; case hne => ((try simp only [World.size_alloc, World.size_setCell, World.size_drew]); omega)))), (by repeat (first | with_reducible assumption | with_reducible apply Box.set10 | with_reducible apply Box.set20 | with_reducible apply Box.set21 | with_reducible apply Box.set40 | with_reducible apply Box.set41 | with_reducible apply Box.set42 | with_reducible apply Box.set43 | with_reducible apply Box.set50 | with_reducible apply Box.set51 | with_reducible apply Box.set52 | with_reducible apply Box.set53 | with_reducible apply Box.set54 | with_reducible apply Box.drew | (with_reducible apply Box.newAt; (try simp only [World.size_alloc, World.size_setCell, World.size_drew]); done) | with_reducible apply Box.alloc | (with_reducible apply Box.other; case hne => ((try simp only [World.size_alloc, World.size_setCell, World.size_drew]); omega)))), (by repeat (first | with_reducible assumption | with_reducible apply Box.set10 | with_reducible apply Box.set20 | with_reducible apply Box.set21 | with_reducible apply Box.set40 | with_reducible apply Box.set41 | with_reducible apply Box.set42 | with_reducible apply Box.set43 | with_reducible apply Box.set50 | with_reducible apply Box.set51 | with_reducible apply Box.set52 | with_reducible apply Box.set53 | with_reducible apply Box.set54 | with_reducible apply Box.drew | (with_reducible apply Box.newAt; (try simp only [World.size_alloc, World.size_setCell, World.size_drew]); done) | with_reducible apply Box.alloc | (with_reducible apply Box.other; case hne => ((try simp only [World.size_alloc, World.size_setCell, World.size_drew]); omega))))⟩) ?_
    clear hk
    clear X1 X1l1 X1l2 X1l3 X1f X10 X11
    clear X2 X2l1 X2l2 X2l3 X2f X20 X21
    clear Bv2_10 Bv2_10l1 Bv2_10l2 Bv2_10l3 Bv2_10f Bv2_100 Bv2_101 Bv2_102 Bv2_103
    intro ρ
    simp only [List.take_succ_cons, List.take_zero, List.drop_succ_cons, List.drop_zero]
    refine ⟨?_, ?_⟩
    · as_aux_lemma =>
      intro w hS_ hD
      have hS := hS_ (by rfl)
      have Q := (hS.2.2.2.2.2).cell
      have q0 := Q 0 _ rfl
      have q1 := Q 1 _ rfl
      have q2 := Q 2 _ rfl
      have q3 := Q 3 _ rfl
      clear Q hS hS_ hD
      refine s_val (by rfl) (by rfl) ?_
      go_simp; first | done | with_reducible rfl
    simp only [Act.put, planVG, List.setIfInBounds_toArray, List.set_cons_zero, List.set_cons_succ, List.getElem?_cons_zero, List.getElem?_cons_succ]
    refine ⟨?_, ?_⟩
    · as_aux_lemma =>
      intro w hS_ hD
      have hS := hS_ (by rfl)
      have Q := (hS.2.2.1).cell
      have q0 := Q 0 _ rfl
      have q1 := Q 1 _ rfl
      clear Q hS hS_ hD
      refine s_val (by rfl) (by rfl) ?_
      go_simp; first | done | with_reducible rfl
    simp only [Act.put, planVG, List.setIfInBounds_toArray, List.set_cons_zero, List.set_cons_succ, List.getElem?_cons_zero, List.getElem?_cons_succ]
    refine ⟨?_, ?_⟩
    · as_aux_lemma =>
      intro w hS_ hD
      clear hS_ hD
      refine s_val (by rfl) (by rfl) ?_
      go_simp; first | done | with_reducible rfl
    simp only [Act.put, planVG, List.setIfInBounds_toArray, List.set_cons_zero, List.set_cons_succ, List.getElem?_cons_zero, List.getElem?_cons_succ]
    refine ⟨?_, ?_⟩
    · as_aux_lemma =>
      intro w hS_ hD
      try clear hS
      clear hS_ hD
      refine s_call ?_ ?_ (by rfl) (by rfl) ?_ ?_
      rotate_left 2
      · go_simp; first | done | with_reducible rfl | (constructor <;> with_reducible rfl)
      · refine Join_at (IsBits.of hA) (IsBits.val u64_zero u64_zero) _
    simp only [Act.put, planVG, List.setIfInBounds_toArray, List.set_cons_zero, List.set_cons_succ, List.getElem?_cons_zero, List.getElem?_cons_succ]
    refine ⟨?_, ?_⟩
    · as_aux_lemma =>
      intro w hS_ hD
      try clear hS
      clear hS_ hD
      refine s_call ?_ ?_ (by rfl) (by rfl) ?_ ?_
      rotate_left 2
      · go_simp; first | done | with_reducible rfl | (constructor <;> with_reducible rfl)
      · refine AddW_at (IsWide.of (mulN_w (IsBits.of hA).w (IsBits.of (add128_w _ _)).w)) (IsWide.of (join_w (IsBits.of hA).w (IsBits.val u64_zero u64_zero).w)) _
    simp only [Act.put, planVG, List.setIfInBounds_toArray, List.set_cons_zero, List.set_cons_succ, List.getElem?_cons_zero, List.getElem?_cons_succ]
    refine ⟨?_, ?_⟩
    · as_aux_lemma =>
      intro w hS_ hD
      clear hS_ hD
      refine s_val (by rfl) (by rfl) ?_
      go_simp; first | done | with_reducible rfl
    simp only [Act.put, planVG, List.setIfInBounds_toArray, List.set_cons_zero, List.set_cons_succ, List.getElem?_cons_zero, List.getElem?_cons_succ]
    refine ⟨?_, ?_⟩
    · as_aux_lemma =>
      intro w hS_ hD
      clear hS_ hD
      refine s_val (by rfl) (by rfl) ?_
      go_simp; first | done | with_reducible rfl
    simp only [Act.put, planVG, List.setIfInBounds_toArray, List.set_cons_zero, List.set_cons_succ, List.getElem?_cons_zero, List.getElem?_cons_succ]
    refine ⟨?_, ?_⟩
    · as_aux_lemma =>
      intro w hS_ hD
      clear hS_ hD
      refine s_val (by rfl) (by rfl) ?_
      go_simp; first | done | with_reducible rfl
    simp only [Act.put, planVG, List.setIfInBounds_toArray, List.set_cons_zero, List.set_cons_succ, List.getElem?_cons_zero, List.getElem?_cons_succ]
    refine ⟨?_, ?_⟩
    · as_aux_lemma =>
      intro w hS_ hD
      have Q := ((hS_ (by rfl)).2.2.2.2.2).cell
      have q0 := Q 0 _ rfl
      have q1 := Q 1 _ rfl
      have q2 := Q 2 _ rfl
      have q3 := Q 3 _ rfl
      have Qf := ((hS_ (by rfl)).2.2.2.2.2).free
      have Ql := ((hS_ (by rfl)).2.2.2.2.2).lt
      clear Q hS_ hD
      refine s_out (by rfl) (by rfl) ?_
      simp only [putCells]
      go_simp; first | done | with_reducible rfl | rfl
    simp only [Act.put, planVG, List.setIfInBounds_toArray, List.set_cons_zero, List.set_cons_succ, List.getElem?_cons_zero, List.getElem?_cons_succ]
    as_aux_lemma =>
      intro w4 hS hF hD_
      change wpList _ _ _ _ _ _
      replace hS := sg_yes (by decide) hS
      obtain ⟨hk, hZ4, X1, X2, Bv2_10, X5⟩ := hS
      clear hF hD_
      clear ρ
      have hz_w4 := hk.size
      have X1l := X1.lt
      have X1f := X1.free
      have X1l1 : w.heap.size < w4.heap.size + 1 := by omega
      have X1l2 : w.heap.size < w4.heap.size + 1 + 1 := by omega
      have X1l3 : w.heap.size < w4.heap.size + 1 + 1 + 1 := by omega
      have X10 := X1.cell 0 _ rfl
      have X11 := X1.cell 1 _ rfl
      have X2l := X2.lt
      have X2f := X2.free
      have X2l1 : w.heap.size + 1 < w4.heap.size + 1 := by omega
      have X2l2 : w.heap.size + 1 < w4.heap.size + 1 + 1 := by omega
      have X2l3 : w.heap.size + 1 < w4.heap.size + 1 + 1 + 1 := by omega
      have X20 := X2.cell 0 _ rfl
      have X21 := X2.cell 1 _ rfl
      have Bv2_10l := Bv2_10.lt
      have Bv2_10f := Bv2_10.free
      have Bv2_10l1 : v2_10 < w4.heap.size + 1 := by omega
      have Bv2_10l2 : v2_10 < w4.heap.size + 1 + 1 := by omega
      have Bv2_10l3 : v2_10 < w4.heap.size + 1 + 1 + 1 := by omega
      have Bv2_100 := Bv2_10.cell 0 _ rfl
      have Bv2_101 := Bv2_10.cell 1 _ rfl
      have Bv2_102 := Bv2_10.cell 2 _ rfl
      have Bv2_103 := Bv2_10.cell 3 _ rfl
      have X5l := X5.lt
      have X5f := X5.free
      have X5l1 : w3.heap.size < w4.heap.size + 1 := by omega
      have X5l2 : w3.heap.size < w4.heap.size + 1 + 1 := by omega
      have X5l3 : w3.heap.size < w4.heap.size + 1 + 1 + 1 := by omega
      have X50 := X5.cell 0 _ rfl
      have X51 := X5.cell 1 _ rfl
      have X52 := X5.cell 2 _ rfl
      have X53 := X5.cell 3 _ rfl
      go_wp2
      refine wp_region_g 35 (fun W' => Kept w.heap.size w W' ∧ w4.heap.size ≤ W'.heap.size ∧ Box W' (w.heap.size) #[.int .u64 (limb 1 A), .int .u64 (limb 0 A)] ∧ Box W' (w.heap.size + 1) #[.int .u64 (limb 1 B), .int .u64 (limb 0 B)] ∧ Box W' (v2_10) #[.int .u64 (limb 0 (add256 (mulN A B) (mulN A C))), .int .u64 (limb 1 (add256 (mulN A B) (mulN A C))), .int .u64 (limb 2 (add256 (mulN A B) (mulN A C))), .int .u64 (limb 3 (add256 (mulN A B) (mulN A C)))] ∧ Box W' (w3.heap.size) #[.int .u64 (limb 0 (add256 (mulN A (add128 B C)) (joinN A (val2 0 0)))), .int .u64 (limb 1 (add256 (mulN A (add128 B C)) (joinN A (val2 0 0)))), .int .u64 (limb 2 (add256 (mulN A (add128 B C)) (joinN A (val2 0 0)))), .int .u64 (limb 3 (add256 (mulN A (add128 B C)) (joinN A (val2 0 0))))]) (fun W' => Kept w.heap.size w W' ∧ w4.heap.size ≤ W'.heap.size ∧ Box W' (w.heap.size) #[.int .u64 (limb 1 A), .int .u64 (limb 0 A)] ∧ Box W' (w.heap.size + 1) #[.int .u64 (limb 1 B), .int .u64 (limb 0 B)] ∧ Box W' (v2_10) #[.int .u64 (limb 0 (add256 (mulN A B) (mulN A C))), .int .u64 (limb 1 (add256 (mulN A B) (mulN A C))), .int .u64 (limb 2 (add256 (mulN A B) (mulN A C))), .int .u64 (limb 3 (add256 (mulN A B) (mulN A C)))] ∧ Box W' (w3.heap.size) #[.int .u64 (limb 0 (add256 (mulN A (add128 B C)) (joinN A (val2 0 0)))), .int .u64 (limb 1 (add256 (mulN A (add128 B C)) (joinN A (val2 0 0)))), .int .u64 (limb 2 (add256 (mulN A (add128 B C)) (joinN A (val2 0 0)))), .int .u64 (limb 3 (add256 (mulN A (add128 B C)) (joinN A (val2 0 0))))]) 1000 (w4.heap.size) [.known (wideV (add256 (mulN A B) (mulN A C))), .known (wideV (add256 (mulN A (add128 B C)) (joinN A (val2 0 0)))), .known (.bool true), .known (.bool true), .known (bitsV A), .known (bitsV B), .known (wideV (mulN A B)), .known (bitsV B), .known (bitsV A), .known (wideV (mulN B A)), .known (.bool true), .known (.bool true), .known (.bool true), .known (bitsV A), .known (.agg #[.int .u64 0, .int .u64 1]), .known (wideV (mulN A (val2 1 0))), .known (bitsV A), .known (wideV A), .known (.bool true), .known (.bool true), .known (.bool true), .known (bitsV A), .known (.agg #[.int .u64 1, .int .u64 0]), .known (wideV (mulN A (val2 0 1))), .known (.pointer (some ⟨w.heap.size, 1, none⟩)), .known (.int .u64 (limb 0 A)), .known (.pointer (some ⟨w.heap.size, 0, none⟩)), .known (.int .u64 (limb 1 A)), .known (.agg #[.int .u64 0, .int .u64 (limb 0 A), .int .u64 (limb 1 A), .int .u64 0]), .known (.bool true), .known (.bool true), .known (.bool true), .known (.bool true), .known (.bool true), .known (.bool true)] (by kernel_rfl) (by kernel_rfl) (fun W W' h hb => ⟨h.1.step hb, Nat.le_trans (h.2.1) hb.size, Box.call hb (h.2.2.1), Box.call hb (h.2.2.2.1), Box.call hb (h.2.2.2.2.1), Box.call hb (h.2.2.2.2.2)⟩) (fun W W' h hb => ⟨h.1.step hb, Nat.le_trans (h.2.1) hb.size, Box.call hb (h.2.2.1), Box.call hb (h.2.2.2.1), Box.call hb (h.2.2.2.2.1), Box.call hb (h.2.2.2.2.2)⟩) (no_out (of_decide_eq_true (by kernel_rfl))) (.inl (by kernel_rfl)) (.inl (by kernel_rfl)) (fun _ h => h.2.1) (fun _ h => h.2.1) (⟨(by repeat (first | with_reducible exact hk | with_reducible exact Kept.refl _ | with_reducible refine Kept.alloc ?_ _ | with_reducible refine Kept.drew ?_ | with_reducible refine Kept.setCell ?_ (by simp only [World.size_alloc, World.size_setCell, World.size_drew]; omega) _)), (by simp only [World.size_alloc, World.size_setCell, World.size_drew]; omega), (by repeat (first | with_reducible assumption | with_reducible apply Box.set10 | with_reducible apply Box.set20 | with_reducible apply Box.set21 | with_reducible apply Box.set40 | with_reducible apply Box.set41 | with_reducible apply Box.set42 | with_reducible apply Box.set43 | with_reducible apply Box.set50 | with_reducible apply Box.set51 | with_reducible apply Box.set52 | with_reducible apply Box.set53 | with_reducible apply Box.set54 | with_reducible apply Box.drew | (with_reducible apply Box.newAt; (try simp only [World.size_alloc, World.size_setCell, World.size_drew]); done) | with_reducible apply Box.alloc | (with_reducible apply Box.other; case hne => ((try simp only [World.size_alloc, World.size_setCell, World.size_drew]); omega)))), (by repeat (first | with_reducible assumption | with_reducible apply Box.set10 | with_reducible apply Box.set20 | with_reducible apply Box.set21 | with_reducible apply Box.set40 | with_reducible apply Box.set41 | with_reducible apply Box.set42 | with_reducible apply Box.set43 | with_reducible apply Box.set50 | with_reducible apply Box.set51 | with_reducible apply Box.set52 | with_reducible apply Box.set53 | with_reducible apply Box.set54 | with_reducible apply Box.drew | (with_reducible apply Box.newAt; (try simp only [World.size_alloc, World.size_setCell, World.size_drew]); done) | with_reducible apply Box.alloc | (with_reducible apply Box.other; case hne => ((try simp only [World.size_alloc, World.size_setCell, World.size_drew]); omega)))), (by repeat (first | with_reducible assumption | with_reducible apply Box.set10 | with_reducible apply Box.set20 | with_reducible apply Box.set21 | with_reducible apply Box.set40 | with_reducible apply Box.set41 | with_reducible apply Box.set42 | with_reducible apply Box.set43 | with_reducible apply Box.set50 | with_reducible apply Box.set51 | with_reducible apply Box.set52 | with_reducible apply Box.set53 | with_reducible apply Box.set54 | with_reducible apply Box.drew | (with_reducible apply Box.newAt; (try simp only [World.size_alloc, World.size_setCell, World.size_drew]); done) | with_reducible apply Box.alloc | (with_reducible apply Box.other; case hne => ((try simp only [World.size_alloc, World.size_setCell, World.size_drew]); omega)))), (by repeat (first | with_reducible assumption | with_reducible apply Box.set10 | with_reducible apply Box.set20 | with_reducible apply Box.set21 | with_reducible apply Box.set40 | with_reducible apply Box.set41 | with_reducible apply Box.set42 | with_reducible apply Box.set43 | with_reducible apply Box.set50 | with_reducible apply Box.set51 | with_reducible apply Box.set52 | with_reducible apply Box.set53 | with_reducible apply Box.set54 | with_reducible apply Box.drew | (with_reducible apply Box.newAt; (try simp only [World.size_alloc, World.size_setCell, World.size_drew]); done) | with_reducible apply Box.alloc | (with_reducible apply Box.other; case hne => ((try simp only [World.size_alloc, World.size_setCell, World.size_drew]); omega))))⟩) ?_
      clear hk
      clear X1 X1l1 X1l2 X1l3 X1f X10 X11
      clear X2 X2l1 X2l2 X2l3 X2f X20 X21
      clear Bv2_10 Bv2_10l1 Bv2_10l2 Bv2_10l3 Bv2_10f Bv2_100 Bv2_101 Bv2_102 Bv2_103
      clear X5 X5l1 X5l2 X5l3 X5f X50 X51 X52 X53
      intro ρ
      simp only [List.take_succ_cons, List.take_zero, List.drop_succ_cons, List.drop_zero]
      refine ⟨?_, ?_⟩
      · as_aux_lemma =>
        intro w hS_ hD
        have hS := hS_ (by rfl)
        have Q := (hS.2.2.2.2.1).cell
        have q0 := Q 0 _ rfl
        have q1 := Q 1 _ rfl
        have q2 := Q 2 _ rfl
        have q3 := Q 3 _ rfl
        clear Q hS hS_ hD
        refine s_val (by rfl) (by rfl) ?_
        go_simp; first | done | with_reducible rfl
      simp only [Act.put, planVG, List.setIfInBounds_toArray, List.set_cons_zero, List.set_cons_succ, List.getElem?_cons_zero, List.getElem?_cons_succ]
      refine ⟨?_, ?_⟩
      · as_aux_lemma =>
        intro w hS_ hD
        have hS := hS_ (by rfl)
        have Q := (hS.2.2.2.2.2).cell
        have q0 := Q 0 _ rfl
        have q1 := Q 1 _ rfl
        have q2 := Q 2 _ rfl
        have q3 := Q 3 _ rfl
        clear Q hS hS_ hD
        refine s_val (by rfl) (by rfl) ?_
        go_simp; first | done | with_reducible rfl
      simp only [Act.put, planVG, List.setIfInBounds_toArray, List.set_cons_zero, List.set_cons_succ, List.getElem?_cons_zero, List.getElem?_cons_succ]
      refine ⟨?_, ?_⟩
      · as_aux_lemma =>
        intro w hS_ hD
        clear hS_ hD
        refine s_val (by rfl) (by rfl) ?_
        go_simp; first | done | with_reducible rfl
      simp only [Act.put, planVG, List.setIfInBounds_toArray, List.set_cons_zero, List.set_cons_succ, List.getElem?_cons_zero, List.getElem?_cons_succ]
      refine ⟨?_, ?_⟩
      · as_aux_lemma =>
        intro w hS_ hD
        clear hS_ hD
        refine s_val (by rfl) (by rfl) ?_
        go_simp; first | done | with_reducible rfl
      simp only [Act.put, planVG, List.setIfInBounds_toArray, List.set_cons_zero, List.set_cons_succ, List.getElem?_cons_zero, List.getElem?_cons_succ]
      refine ⟨?_, ?_⟩
      · as_aux_lemma =>
        intro w hS_ hD
        have hS := hS_ (by rfl)
        have Q := (hS.2.2.1).cell
        have q0 := Q 0 _ rfl
        have q1 := Q 1 _ rfl
        clear Q hS hS_ hD
        refine s_val (by rfl) (by rfl) ?_
        go_simp; first | done | with_reducible rfl
      simp only [Act.put, planVG, List.setIfInBounds_toArray, List.set_cons_zero, List.set_cons_succ, List.getElem?_cons_zero, List.getElem?_cons_succ]
      refine ⟨?_, ?_⟩
      · as_aux_lemma =>
        intro w hS_ hD
        have hS := hS_ (by rfl)
        have Q := (hS.2.2.2.1).cell
        have q0 := Q 0 _ rfl
        have q1 := Q 1 _ rfl
        clear Q hS hS_ hD
        refine s_val (by rfl) (by rfl) ?_
        go_simp; first | done | with_reducible rfl
      simp only [Act.put, planVG, List.setIfInBounds_toArray, List.set_cons_zero, List.set_cons_succ, List.getElem?_cons_zero, List.getElem?_cons_succ]
      refine ⟨?_, ?_⟩
      · as_aux_lemma =>
        intro w hS_ hD
        try clear hS
        clear hS_ hD
        refine s_call ?_ ?_ (by rfl) (by rfl) ?_ ?_
        rotate_left 2
        · go_simp; first | done | with_reducible rfl | (constructor <;> with_reducible rfl)
        · refine MulW_at (IsBits.of hA) (IsBits.of hB) _
      simp only [Act.put, planVG, List.setIfInBounds_toArray, List.set_cons_zero, List.set_cons_succ, List.getElem?_cons_zero, List.getElem?_cons_succ]
      refine ⟨?_, ?_⟩
      · as_aux_lemma =>
        intro w hS_ hD
        have hS := hS_ (by rfl)
        have Q := (hS.2.2.2.1).cell
        have q0 := Q 0 _ rfl
        have q1 := Q 1 _ rfl
        clear Q hS hS_ hD
        refine s_val (by rfl) (by rfl) ?_
        go_simp; first | done | with_reducible rfl
      simp only [Act.put, planVG, List.setIfInBounds_toArray, List.set_cons_zero, List.set_cons_succ, List.getElem?_cons_zero, List.getElem?_cons_succ]
      refine ⟨?_, ?_⟩
      · as_aux_lemma =>
        intro w hS_ hD
        have hS := hS_ (by rfl)
        have Q := (hS.2.2.1).cell
        have q0 := Q 0 _ rfl
        have q1 := Q 1 _ rfl
        clear Q hS hS_ hD
        refine s_val (by rfl) (by rfl) ?_
        go_simp; first | done | with_reducible rfl
      simp only [Act.put, planVG, List.setIfInBounds_toArray, List.set_cons_zero, List.set_cons_succ, List.getElem?_cons_zero, List.getElem?_cons_succ]
      refine ⟨?_, ?_⟩
      · as_aux_lemma =>
        intro w hS_ hD
        try clear hS
        clear hS_ hD
        refine s_call ?_ ?_ (by rfl) (by rfl) ?_ ?_
        rotate_left 2
        · go_simp; first | done | with_reducible rfl | (constructor <;> with_reducible rfl)
        · refine MulW_at (IsBits.of hB) (IsBits.of hA) _
      simp only [Act.put, planVG, List.setIfInBounds_toArray, List.set_cons_zero, List.set_cons_succ, List.getElem?_cons_zero, List.getElem?_cons_succ]
      refine ⟨?_, ?_⟩
      · as_aux_lemma =>
        intro w hS_ hD
        clear hS_ hD
        refine s_val (by rfl) (by rfl) ?_
        go_simp; first | done | with_reducible rfl
      simp only [Act.put, planVG, List.setIfInBounds_toArray, List.set_cons_zero, List.set_cons_succ, List.getElem?_cons_zero, List.getElem?_cons_succ]
      refine ⟨?_, ?_⟩
      · as_aux_lemma =>
        intro w hS_ hD
        clear hS_ hD
        refine s_val (by rfl) (by rfl) ?_
        go_simp; first | done | with_reducible rfl
      simp only [Act.put, planVG, List.setIfInBounds_toArray, List.set_cons_zero, List.set_cons_succ, List.getElem?_cons_zero, List.getElem?_cons_succ]
      refine ⟨?_, ?_⟩
      · as_aux_lemma =>
        intro w hS_ hD
        clear hS_ hD
        refine s_val (by rfl) (by rfl) ?_
        go_simp; first | done | with_reducible rfl
      simp only [Act.put, planVG, List.setIfInBounds_toArray, List.set_cons_zero, List.set_cons_succ, List.getElem?_cons_zero, List.getElem?_cons_succ]
      refine ⟨?_, ?_⟩
      · as_aux_lemma =>
        intro w hS_ hD
        have hS := hS_ (by rfl)
        have Q := (hS.2.2.1).cell
        have q0 := Q 0 _ rfl
        have q1 := Q 1 _ rfl
        clear Q hS hS_ hD
        refine s_val (by rfl) (by rfl) ?_
        go_simp; first | done | with_reducible rfl
      simp only [Act.put, planVG, List.setIfInBounds_toArray, List.set_cons_zero, List.set_cons_succ, List.getElem?_cons_zero, List.getElem?_cons_succ]
      refine ⟨?_, ?_⟩
      · as_aux_lemma =>
        intro w hS_ hD
        clear hS_ hD
        refine s_val (by rfl) (by rfl) ?_
        go_simp; first | done | with_reducible rfl
      simp only [Act.put, planVG, List.setIfInBounds_toArray, List.set_cons_zero, List.set_cons_succ, List.getElem?_cons_zero, List.getElem?_cons_succ]
      refine ⟨?_, ?_⟩
      · as_aux_lemma =>
        intro w hS_ hD
        try clear hS
        clear hS_ hD
        refine s_call ?_ ?_ (by rfl) (by rfl) ?_ ?_
        rotate_left 2
        · go_simp; first | done | with_reducible rfl | (constructor <;> with_reducible rfl)
        · refine MulW_at (IsBits.of hA) (IsBits.val u64_zero (isU64_mk (by decide +kernel))) _
      simp only [Act.put, planVG, List.setIfInBounds_toArray, List.set_cons_zero, List.set_cons_succ, List.getElem?_cons_zero, List.getElem?_cons_succ]
      refine ⟨?_, ?_⟩
      · as_aux_lemma =>
        intro w hS_ hD
        have hS := hS_ (by rfl)
        have Q := (hS.2.2.1).cell
        have q0 := Q 0 _ rfl
        have q1 := Q 1 _ rfl
        clear Q hS hS_ hD
        refine s_val (by rfl) (by rfl) ?_
        go_simp; first | done | with_reducible rfl
      simp only [Act.put, planVG, List.setIfInBounds_toArray, List.set_cons_zero, List.set_cons_succ, List.getElem?_cons_zero, List.getElem?_cons_succ]
      refine ⟨?_, ?_⟩
      · as_aux_lemma =>
        intro w hS_ hD
        try clear hS
        clear hS_ hD
        refine s_call ?_ ?_ (by rfl) (by rfl) ?_ ?_
        rotate_left 2
        · go_simp; first | done | with_reducible rfl | (constructor <;> with_reducible rfl)
        · refine Of_at (IsBits.of hA) _
      simp only [Act.put, planVG, List.setIfInBounds_toArray, List.set_cons_zero, List.set_cons_succ, List.getElem?_cons_zero, List.getElem?_cons_succ]
      refine ⟨?_, ?_⟩
      · as_aux_lemma =>
        intro w hS_ hD
        clear hS_ hD
        refine s_val (by rfl) (by rfl) ?_
        go_simp; first | done | with_reducible rfl
      simp only [Act.put, planVG, List.setIfInBounds_toArray, List.set_cons_zero, List.set_cons_succ, List.getElem?_cons_zero, List.getElem?_cons_succ]
      refine ⟨?_, ?_⟩
      · as_aux_lemma =>
        intro w hS_ hD
        clear hS_ hD
        refine s_val (by rfl) (by rfl) ?_
        go_simp; first | done | with_reducible rfl
      simp only [Act.put, planVG, List.setIfInBounds_toArray, List.set_cons_zero, List.set_cons_succ, List.getElem?_cons_zero, List.getElem?_cons_succ]
      refine ⟨?_, ?_⟩
      · as_aux_lemma =>
        intro w hS_ hD
        clear hS_ hD
        refine s_val (by rfl) (by rfl) ?_
        go_simp; first | done | with_reducible rfl
      simp only [Act.put, planVG, List.setIfInBounds_toArray, List.set_cons_zero, List.set_cons_succ, List.getElem?_cons_zero, List.getElem?_cons_succ]
      refine ⟨?_, ?_⟩
      · as_aux_lemma =>
        intro w hS_ hD
        have hS := hS_ (by rfl)
        have Q := (hS.2.2.1).cell
        have q0 := Q 0 _ rfl
        have q1 := Q 1 _ rfl
        clear Q hS hS_ hD
        refine s_val (by rfl) (by rfl) ?_
        go_simp; first | done | with_reducible rfl
      simp only [Act.put, planVG, List.setIfInBounds_toArray, List.set_cons_zero, List.set_cons_succ, List.getElem?_cons_zero, List.getElem?_cons_succ]
      refine ⟨?_, ?_⟩
      · as_aux_lemma =>
        intro w hS_ hD
        clear hS_ hD
        refine s_val (by rfl) (by rfl) ?_
        go_simp; first | done | with_reducible rfl
      simp only [Act.put, planVG, List.setIfInBounds_toArray, List.set_cons_zero, List.set_cons_succ, List.getElem?_cons_zero, List.getElem?_cons_succ]
      refine ⟨?_, ?_⟩
      · as_aux_lemma =>
        intro w hS_ hD
        try clear hS
        clear hS_ hD
        refine s_call ?_ ?_ (by rfl) (by rfl) ?_ ?_
        rotate_left 2
        · go_simp; first | done | with_reducible rfl | (constructor <;> with_reducible rfl)
        · refine MulW_at (IsBits.of hA) (IsBits.val (isU64_mk (by decide +kernel)) u64_zero) _
      simp only [Act.put, planVG, List.setIfInBounds_toArray, List.set_cons_zero, List.set_cons_succ, List.getElem?_cons_zero, List.getElem?_cons_succ]
      refine ⟨?_, ?_⟩
      · as_aux_lemma =>
        intro w hS_ hD
        clear hS_ hD
        refine s_val (by rfl) (by rfl) ?_
        go_simp; first | done | with_reducible rfl
      simp only [Act.put, planVG, List.setIfInBounds_toArray, List.set_cons_zero, List.set_cons_succ, List.getElem?_cons_zero, List.getElem?_cons_succ]
      refine ⟨?_, ?_⟩
      · as_aux_lemma =>
        intro w hS_ hD
        have hS := hS_ (by rfl)
        have Q := (hS.2.2.1).cell
        have q0 := Q 0 _ rfl
        have q1 := Q 1 _ rfl
        clear Q hS hS_ hD
        refine s_val (by rfl) (by rfl) ?_
        go_simp; first | done | with_reducible rfl
      simp only [Act.put, planVG, List.setIfInBounds_toArray, List.set_cons_zero, List.set_cons_succ, List.getElem?_cons_zero, List.getElem?_cons_succ]
      refine ⟨?_, ?_⟩
      · as_aux_lemma =>
        intro w hS_ hD
        clear hS_ hD
        refine s_val (by rfl) (by rfl) ?_
        go_simp; first | done | with_reducible rfl
      simp only [Act.put, planVG, List.setIfInBounds_toArray, List.set_cons_zero, List.set_cons_succ, List.getElem?_cons_zero, List.getElem?_cons_succ]
      refine ⟨?_, ?_⟩
      · as_aux_lemma =>
        intro w hS_ hD
        have hS := hS_ (by rfl)
        have Q := (hS.2.2.1).cell
        have q0 := Q 0 _ rfl
        have q1 := Q 1 _ rfl
        clear Q hS hS_ hD
        refine s_val (by rfl) (by rfl) ?_
        go_simp; first | done | with_reducible rfl
      simp only [Act.put, planVG, List.setIfInBounds_toArray, List.set_cons_zero, List.set_cons_succ, List.getElem?_cons_zero, List.getElem?_cons_succ]
      refine ⟨?_, ?_⟩
      · as_aux_lemma =>
        intro w hS_ hD
        clear hS_ hD
        refine s_val (by rfl) (by rfl) ?_
        go_simp; first | done | with_reducible rfl
      simp only [Act.put, planVG, List.setIfInBounds_toArray, List.set_cons_zero, List.set_cons_succ, List.getElem?_cons_zero, List.getElem?_cons_succ]
      refine ⟨?_, ?_⟩
      · as_aux_lemma =>
        intro w hS_ hD
        clear hS_ hD
        refine s_val (by rfl) (by rfl) ?_
        go_simp; first | done | with_reducible rfl
      simp only [Act.put, planVG, List.setIfInBounds_toArray, List.set_cons_zero, List.set_cons_succ, List.getElem?_cons_zero, List.getElem?_cons_succ]
      refine ⟨?_, ?_⟩
      · as_aux_lemma =>
        intro w hS_ hD
        clear hS_ hD
        refine s_val (by rfl) (by rfl) ?_
        go_simp; first | done | with_reducible rfl
      simp only [Act.put, planVG, List.setIfInBounds_toArray, List.set_cons_zero, List.set_cons_succ, List.getElem?_cons_zero, List.getElem?_cons_succ]
      refine ⟨?_, ?_⟩
      · as_aux_lemma =>
        intro w hS_ hD
        clear hS_ hD
        refine s_val (by rfl) (by rfl) ?_
        go_simp; first | done | with_reducible rfl
      simp only [Act.put, planVG, List.setIfInBounds_toArray, List.set_cons_zero, List.set_cons_succ, List.getElem?_cons_zero, List.getElem?_cons_succ]
      refine ⟨?_, ?_⟩
      · as_aux_lemma =>
        intro w hS_ hD
        try clear hS
        clear hS_ hD
        refine s_call ?_ ?_ (by rfl) (by rfl) ?_ ?_
        rotate_left 2
        · go_simp; first | done | with_reducible rfl | (constructor <;> with_reducible rfl)
        · refine counts02_any _
      simp only [Act.put, planVG, List.setIfInBounds_toArray, List.set_cons_zero, List.set_cons_succ, List.getElem?_cons_zero, List.getElem?_cons_succ]
      refine ⟨?_, ?_⟩
      · as_aux_lemma =>
        intro w hS_ hD
        clear hS_ hD
        refine s_val (by rfl) (by rfl) ?_
        go_simp; first | done | with_reducible rfl
      simp only [Act.put, planVG, List.setIfInBounds_toArray, List.set_cons_zero, List.set_cons_succ, List.getElem?_cons_zero, List.getElem?_cons_succ]
      refine ⟨?_, ?_⟩
      · as_aux_lemma =>
        intro w hS_ hD
        clear hS_ hD
        refine s_val (by rfl) (by rfl) ?_
        go_simp; first | done | with_reducible rfl
      simp only [Act.put, planVG, List.setIfInBounds_toArray, List.set_cons_zero, List.set_cons_succ, List.getElem?_cons_zero, List.getElem?_cons_succ]
      as_aux_lemma =>
        intro w5 hS hF hD_
        change wpList _ _ _ _ _ _
        replace hS := sg_no (by decide) hS
        obtain ⟨hk, hZ5, X1, X2, Bv2_10, X5⟩ := hS
        clear hF hD_
        clear ρ
        have hz_w5 := hk.size
        have X1l := X1.lt
        have X1f := X1.free
        have X1l1 : w.heap.size < w5.heap.size + 1 := by omega
        have X1l2 : w.heap.size < w5.heap.size + 1 + 1 := by omega
        have X1l3 : w.heap.size < w5.heap.size + 1 + 1 + 1 := by omega
        have X10 := X1.cell 0 _ rfl
        have X11 := X1.cell 1 _ rfl
        have X2l := X2.lt
        have X2f := X2.free
        have X2l1 : w.heap.size + 1 < w5.heap.size + 1 := by omega
        have X2l2 : w.heap.size + 1 < w5.heap.size + 1 + 1 := by omega
        have X2l3 : w.heap.size + 1 < w5.heap.size + 1 + 1 + 1 := by omega
        have X20 := X2.cell 0 _ rfl
        have X21 := X2.cell 1 _ rfl
        have Bv2_10l := Bv2_10.lt
        have Bv2_10f := Bv2_10.free
        have Bv2_10l1 : v2_10 < w5.heap.size + 1 := by omega
        have Bv2_10l2 : v2_10 < w5.heap.size + 1 + 1 := by omega
        have Bv2_10l3 : v2_10 < w5.heap.size + 1 + 1 + 1 := by omega
        have Bv2_100 := Bv2_10.cell 0 _ rfl
        have Bv2_101 := Bv2_10.cell 1 _ rfl
        have Bv2_102 := Bv2_10.cell 2 _ rfl
        have Bv2_103 := Bv2_10.cell 3 _ rfl
        have X5l := X5.lt
        have X5f := X5.free
        have X5l1 : w3.heap.size < w5.heap.size + 1 := by omega
        have X5l2 : w3.heap.size < w5.heap.size + 1 + 1 := by omega
        have X5l3 : w3.heap.size < w5.heap.size + 1 + 1 + 1 := by omega
        have X50 := X5.cell 0 _ rfl
        have X51 := X5.cell 1 _ rfl
        have X52 := X5.cell 2 _ rfl
        have X53 := X5.cell 3 _ rfl
        go_wp2
        go_ret
        exact ⟨rfl, (by refine Kept.below ?_; repeat (first | with_reducible exact hk | with_reducible exact Kept.refl _ | with_reducible refine Kept.alloc ?_ _ | with_reducible refine Kept.drew ?_ | with_reducible refine Kept.setCell ?_ (by simp only [World.size_alloc, World.size_setCell, World.size_drew]; omega) _))⟩

theorem WideMul_walk {A B C : Nat} (hA : W128 A) (hB : W128 B) (hC : W128 C) (w : World) :
    Calls Try.prog 5 #[bitsV A, bitsV B, bitsV C] w fun e w' => e = .returned (.bool true) ∧ Below w.heap.size w w' := by
  cases h : carry128 B C with
  | false => exact WideMul_no hA hB hC h w
  | true => exact WideMul_over hA hB hC h w
end Go.Proofs.Ytohlhmicolnmbaa
