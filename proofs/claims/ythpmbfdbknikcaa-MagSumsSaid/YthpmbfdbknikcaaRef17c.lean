/- The references of layer 17: contracts of Sum, Diff. -/
import Derived.Test.YthpmbfdbknikcaaRef17b
set_option linter.unusedVariables false
set_option linter.unusedSimpArgs false
namespace Go.Proofs.Ythpmbfdbknikcaa
open Go.RowKit

set_option maxRecDepth 100000 in
set_option maxHeartbeats 8000000 in
theorem ref17Sum_w {x y L : Int} {A B P Q : Nat} (hA : W256 A) (hB : W256 B) (hP : W256 P) (hQ : W256 Q) (l0 : -1099511627776 ≤ L) (l1 : L ≤ 1099511627776) (e0 : levelI (expI x) A (expI y) B = L) (e1 : sideI (expI x) A (L + 1) = P) (e2 : sideI (expI y) B (L + 1) = Q) (w : World) :
    Calls Try.prog 52 #[.int .i64 x, wideV A, .int .i64 y, wideV B] w fun e w' => e = .returned (.tuple #[.int .i64 (L + 1), wideV (add256 P Q)]) ∧ Below w.heap.size w w' := by
  have hk := Kept.refl w
  have HL := Lib.hid e0; have E1 := Lib.hid e1; have E2 := Lib.hid e2
  have w1_ : IntKind.i64.wrap (L + 1) = L + 1 := IntWalk.i64_in _ (by omega)
  have hP2 := hP.lt; have hQ2 := hQ.lt
  have lP := len256 hP
  have lQ := len256 hQ
  have HW := Lib.hid (show wideV (P + Q) = wideV (add256 P Q) from wide_mod (by unfold add256; omega))
  have lS : lenN (P + Q) ≤ 9 := lenN_le 9 _ (by omega)
  clear e0 e1 e2
  go_enter Try.func52, Try.ntmps52
  go_wp2_with fail
  (with_reducible refine (calls_to (V := .int .i64 (L)) (refLevel_any hA hB _) (by rw [HL.out])).mono ?_)
  rintro e w1 ⟨rfl, hb⟩
  have X1' : Box w1 (w.heap.size) #[.int .u64 (limb 0 A), .int .u64 (limb 1 A), .int .u64 (limb 2 A), .int .u64 (limb 3 A)] := Box.call hb (by repeat (first | with_reducible assumption | with_reducible apply Box.set10 | with_reducible apply Box.set20 | with_reducible apply Box.set21 | with_reducible apply Box.set40 | with_reducible apply Box.set41 | with_reducible apply Box.set42 | with_reducible apply Box.set43 | with_reducible apply Box.set50 | with_reducible apply Box.set51 | with_reducible apply Box.set52 | with_reducible apply Box.set53 | with_reducible apply Box.set54 | with_reducible apply Box.drew | (with_reducible apply Box.newAt; (try simp only [World.size_alloc, World.size_setCell, World.size_drew]); done) | with_reducible apply Box.alloc | (with_reducible apply Box.other; case hne => ((try simp only [World.size_alloc, World.size_setCell, World.size_drew]); omega))))
  have X2' : Box w1 (w.heap.size + 1) #[.int .u64 (limb 0 B), .int .u64 (limb 1 B), .int .u64 (limb 2 B), .int .u64 (limb 3 B)] := Box.call hb (by repeat (first | with_reducible assumption | with_reducible apply Box.set10 | with_reducible apply Box.set20 | with_reducible apply Box.set21 | with_reducible apply Box.set40 | with_reducible apply Box.set41 | with_reducible apply Box.set42 | with_reducible apply Box.set43 | with_reducible apply Box.set50 | with_reducible apply Box.set51 | with_reducible apply Box.set52 | with_reducible apply Box.set53 | with_reducible apply Box.set54 | with_reducible apply Box.drew | (with_reducible apply Box.newAt; (try simp only [World.size_alloc, World.size_setCell, World.size_drew]); done) | with_reducible apply Box.alloc | (with_reducible apply Box.other; case hne => ((try simp only [World.size_alloc, World.size_setCell, World.size_drew]); omega))))
  have X3' : Box w1 (w.heap.size + 1 + 1) #[.int .u64 0, .int .u64 0, .int .u64 0, .int .u64 0] := Box.call hb (by repeat (first | with_reducible assumption | with_reducible apply Box.set10 | with_reducible apply Box.set20 | with_reducible apply Box.set21 | with_reducible apply Box.set40 | with_reducible apply Box.set41 | with_reducible apply Box.set42 | with_reducible apply Box.set43 | with_reducible apply Box.set50 | with_reducible apply Box.set51 | with_reducible apply Box.set52 | with_reducible apply Box.set53 | with_reducible apply Box.set54 | with_reducible apply Box.drew | (with_reducible apply Box.newAt; (try simp only [World.size_alloc, World.size_setCell, World.size_drew]); done) | with_reducible apply Box.alloc | (with_reducible apply Box.other; case hne => ((try simp only [World.size_alloc, World.size_setCell, World.size_drew]); omega))))
  have hk' : Kept w.heap.size w w1 := Kept.step (by repeat (first | with_reducible exact hk | with_reducible exact Kept.refl _ | with_reducible refine Kept.alloc ?_ _ | with_reducible refine Kept.drew ?_ | with_reducible refine Kept.setCell ?_ (by simp only [World.size_alloc, World.size_setCell, World.size_drew]; omega) _)) hb
  clear hk hb
  have X1 := X1'
  clear X1'
  have X2 := X2'
  clear X2'
  have X3 := X3'
  clear X3'
  have hk := hk'
  clear hk'
  have hz_w1 := hk.size
  have X1l := X1.lt
  have X1f := X1.free
  have X1l1 : w.heap.size < w1.heap.size + 1 := by omega
  have X1l2 : w.heap.size < w1.heap.size + 1 + 1 := by omega
  have X1l3 : w.heap.size < w1.heap.size + 1 + 1 + 1 := by omega
  have X10 := X1.cell 0 _ rfl
  have X11 := X1.cell 1 _ rfl
  have X12 := X1.cell 2 _ rfl
  have X13 := X1.cell 3 _ rfl
  have X2l := X2.lt
  have X2f := X2.free
  have X2l1 : w.heap.size + 1 < w1.heap.size + 1 := by omega
  have X2l2 : w.heap.size + 1 < w1.heap.size + 1 + 1 := by omega
  have X2l3 : w.heap.size + 1 < w1.heap.size + 1 + 1 + 1 := by omega
  have X20 := X2.cell 0 _ rfl
  have X21 := X2.cell 1 _ rfl
  have X22 := X2.cell 2 _ rfl
  have X23 := X2.cell 3 _ rfl
  have X3l := X3.lt
  have X3f := X3.free
  have X3l1 : w.heap.size + 1 + 1 < w1.heap.size + 1 := by omega
  have X3l2 : w.heap.size + 1 + 1 < w1.heap.size + 1 + 1 := by omega
  have X3l3 : w.heap.size + 1 + 1 < w1.heap.size + 1 + 1 + 1 := by omega
  have X30 := X3.cell 0 _ rfl
  have X31 := X3.cell 1 _ rfl
  have X32 := X3.cell 2 _ rfl
  have X33 := X3.cell 3 _ rfl
  go_wp2
  refine wp_region_g 12 (fun W' => Kept w.heap.size w W' ∧ w1.heap.size ≤ W'.heap.size ∧ Box W' (w.heap.size) #[.int .u64 (limb 0 A), .int .u64 (limb 1 A), .int .u64 (limb 2 A), .int .u64 (limb 3 A)] ∧ Box W' (w.heap.size + 1) #[.int .u64 (limb 0 B), .int .u64 (limb 1 B), .int .u64 (limb 2 B), .int .u64 (limb 3 B)] ∧ Box W' (w.heap.size + 1 + 1) #[.int .u64 0, .int .u64 0, .int .u64 0, .int .u64 0]) (fun W' => Kept w.heap.size w W' ∧ w1.heap.size ≤ W'.heap.size ∧ Box W' (w.heap.size) #[.int .u64 (limb 0 A), .int .u64 (limb 1 A), .int .u64 (limb 2 A), .int .u64 (limb 3 A)] ∧ Box W' (w.heap.size + 1) #[.int .u64 (limb 0 B), .int .u64 (limb 1 B), .int .u64 (limb 2 B), .int .u64 (limb 3 B)] ∧ Box W' (w.heap.size + 1 + 1) #[.int .u64 0, .int .u64 0, .int .u64 0, .int .u64 0]) 1000 (w1.heap.size) [.known (.int .i64 (L + 1)), .known (.int .i64 (x)), .known (wideV A), .known (.int .i64 (L + 1)), .num (P), .known (.int .i64 (y)), .known (wideV B), .known (.int .i64 (L + 1)), .num (Q), .num (P + Q), .known (wideV (add256 P Q)), .known (.int .i64 (L + 1))] (by kernel_rfl) (by kernel_rfl) (fun W W' h hb => ⟨h.1.step hb, Nat.le_trans (h.2.1) hb.size, Box.call hb (h.2.2.1), Box.call hb (h.2.2.2.1), Box.call hb (h.2.2.2.2)⟩) (fun W W' h hb => ⟨h.1.step hb, Nat.le_trans (h.2.1) hb.size, Box.call hb (h.2.2.1), Box.call hb (h.2.2.2.1), Box.call hb (h.2.2.2.2)⟩) (no_out (of_decide_eq_true (by kernel_rfl))) (.inl (by kernel_rfl)) (.inl (by kernel_rfl)) (fun _ h => h.2.1) (fun _ h => h.2.1) (⟨(by repeat (first | with_reducible exact hk | with_reducible exact Kept.refl _ | with_reducible refine Kept.alloc ?_ _ | with_reducible refine Kept.drew ?_ | with_reducible refine Kept.setCell ?_ (by simp only [World.size_alloc, World.size_setCell, World.size_drew]; omega) _)), (by (try simp only [World.size_alloc, World.size_setCell, World.size_drew]); omega), (by repeat (first | with_reducible assumption | with_reducible apply Box.set10 | with_reducible apply Box.set20 | with_reducible apply Box.set21 | with_reducible apply Box.set40 | with_reducible apply Box.set41 | with_reducible apply Box.set42 | with_reducible apply Box.set43 | with_reducible apply Box.set50 | with_reducible apply Box.set51 | with_reducible apply Box.set52 | with_reducible apply Box.set53 | with_reducible apply Box.set54 | with_reducible apply Box.drew | (with_reducible apply Box.newAt; (try simp only [World.size_alloc, World.size_setCell, World.size_drew]); done) | with_reducible apply Box.alloc | (with_reducible apply Box.other; case hne => ((try simp only [World.size_alloc, World.size_setCell, World.size_drew]); omega)))), (by repeat (first | with_reducible assumption | with_reducible apply Box.set10 | with_reducible apply Box.set20 | with_reducible apply Box.set21 | with_reducible apply Box.set40 | with_reducible apply Box.set41 | with_reducible apply Box.set42 | with_reducible apply Box.set43 | with_reducible apply Box.set50 | with_reducible apply Box.set51 | with_reducible apply Box.set52 | with_reducible apply Box.set53 | with_reducible apply Box.set54 | with_reducible apply Box.drew | (with_reducible apply Box.newAt; (try simp only [World.size_alloc, World.size_setCell, World.size_drew]); done) | with_reducible apply Box.alloc | (with_reducible apply Box.other; case hne => ((try simp only [World.size_alloc, World.size_setCell, World.size_drew]); omega)))), (by repeat (first | with_reducible assumption | with_reducible apply Box.set10 | with_reducible apply Box.set20 | with_reducible apply Box.set21 | with_reducible apply Box.set40 | with_reducible apply Box.set41 | with_reducible apply Box.set42 | with_reducible apply Box.set43 | with_reducible apply Box.set50 | with_reducible apply Box.set51 | with_reducible apply Box.set52 | with_reducible apply Box.set53 | with_reducible apply Box.set54 | with_reducible apply Box.drew | (with_reducible apply Box.newAt; (try simp only [World.size_alloc, World.size_setCell, World.size_drew]); done) | with_reducible apply Box.alloc | (with_reducible apply Box.other; case hne => ((try simp only [World.size_alloc, World.size_setCell, World.size_drew]); omega))))⟩) ?_
  clear hk
  clear X1 X1l1 X1l2 X1l3 X1f X10 X11 X12 X13
  clear X2 X2l1 X2l2 X2l3 X2f X20 X21 X22 X23
  clear X3 X3l1 X3l2 X3l3 X3f X30 X31 X32 X33
  intro ρ
  simp only [List.take_succ_cons, List.take_zero, List.drop_succ_cons, List.drop_zero]
  refine ⟨?_, ?_⟩
  · as_aux_lemma =>
    intro y_ hS_ hO_ hD
    clear hS_ hO_ hD
    refine s_gen (V := .int .i64 (L + 1)) [.int .i64 (L + 1)] (by kernel_rfl) (by kernel_rfl) (by kernel_rfl) ?_
    intro r_ hr_
    have o0_ : r_ (.tmp 10) = .int .i64 (L + 1) := op_at hr_ 0 (by kernel_rfl) (by kernel_rfl)
    clear hr_
    go_simp; first | done | with_reducible rfl | omega
  simp only [Act.put, planVG, List.setIfInBounds_toArray, List.set_cons_zero, List.set_cons_succ, List.getElem?_cons_zero, List.getElem?_cons_succ]
  refine ⟨?_, ?_⟩
  · as_aux_lemma =>
    intro y_ hS_ hO_ hD
    clear hS_ hO_ hD
    refine s_gen (V := .int .i64 (x)) [.int .i64 (x)] (by kernel_rfl) (by kernel_rfl) (by kernel_rfl) ?_
    intro r_ hr_
    have o0_ : r_ (.tmp 0) = .int .i64 (x) := op_at hr_ 0 (by kernel_rfl) (by kernel_rfl)
    clear hr_
    go_simp; first | done | with_reducible rfl | omega
  simp only [Act.put, planVG, List.setIfInBounds_toArray, List.set_cons_zero, List.set_cons_succ, List.getElem?_cons_zero, List.getElem?_cons_succ]
  refine ⟨?_, ?_⟩
  · as_aux_lemma =>
    intro y_ hS_ hO_ hD
    have Q := ((hS_ (by rfl)).2.2.1).cell
    have q0 := Q 0 _ rfl
    have q1 := Q 1 _ rfl
    have q2 := Q 2 _ rfl
    have q3 := Q 3 _ rfl
    clear Q hS_ hO_ hD
    refine s_gen (V := wideV A) [.pointer (some ⟨w.heap.size, 0, none⟩)] (by kernel_rfl) (by kernel_rfl) (by kernel_rfl) ?_
    intro r_ hr_
    have o0_ : r_ (.tmp 5) = .pointer (some ⟨w.heap.size, 0, none⟩) := op_at hr_ 0 (by kernel_rfl) (by kernel_rfl)
    clear hr_
    go_simp; first | done | with_reducible rfl
  simp only [Act.put, planVG, List.setIfInBounds_toArray, List.set_cons_zero, List.set_cons_succ, List.getElem?_cons_zero, List.getElem?_cons_succ]
  refine ⟨?_, ?_⟩
  · as_aux_lemma =>
    intro y_ hS_ hO_ hD
    clear hS_ hO_ hD
    refine s_gen (V := .int .i64 (L + 1)) [.int .i64 (L + 1)] (by kernel_rfl) (by kernel_rfl) (by kernel_rfl) ?_
    intro r_ hr_
    have o0_ : r_ (.tmp 10) = .int .i64 (L + 1) := op_at hr_ 0 (by kernel_rfl) (by kernel_rfl)
    clear hr_
    go_simp; first | done | with_reducible rfl | omega
  simp only [Act.put, planVG, List.setIfInBounds_toArray, List.set_cons_zero, List.set_cons_succ, List.getElem?_cons_zero, List.getElem?_cons_succ]
  refine ⟨?_, ?_⟩
  · as_aux_lemma =>
    intro y_ hS_ hO_ hD
    try clear hS
    clear hS_ hO_ hD
    refine s_gcallN (A := P) [.func (.func 76) #[] #[], .int .i64 (x), wideV A, .int .i64 (L + 1)] ?_ ?_ (by kernel_rfl) (by kernel_rfl) (by kernel_rfl) ?_ ?_
    rotate_left 2
    · intro r_ hr_
      have o0_ : r_ (.func 76) = .func (.func 76) #[] #[] := op_at hr_ 0 (by kernel_rfl) (by kernel_rfl)
      have o1_ : r_ (.tmp 18) = .int .i64 (x) := op_at hr_ 1 (by kernel_rfl) (by kernel_rfl)
      have o2_ : r_ (.tmp 19) = wideV A := op_at hr_ 2 (by kernel_rfl) (by kernel_rfl)
      have o3_ : r_ (.tmp 20) = .int .i64 (L + 1) := op_at hr_ 3 (by kernel_rfl) (by kernel_rfl)
      clear hr_
      go_simp; first | done | with_reducible rfl | (constructor <;> with_reducible rfl)
    · refine refAt_to hA E1.out (by omega) (by omega) _
  simp only [Act.put, planVG, List.setIfInBounds_toArray, List.set_cons_zero, List.set_cons_succ, List.getElem?_cons_zero, List.getElem?_cons_succ]
  refine ⟨?_, ?_⟩
  · as_aux_lemma =>
    intro y_ hS_ hO_ hD
    clear hS_ hO_ hD
    refine s_gen (V := .int .i64 (y)) [.int .i64 (y)] (by kernel_rfl) (by kernel_rfl) (by kernel_rfl) ?_
    intro r_ hr_
    have o0_ : r_ (.tmp 2) = .int .i64 (y) := op_at hr_ 0 (by kernel_rfl) (by kernel_rfl)
    clear hr_
    go_simp; first | done | with_reducible rfl | omega
  simp only [Act.put, planVG, List.setIfInBounds_toArray, List.set_cons_zero, List.set_cons_succ, List.getElem?_cons_zero, List.getElem?_cons_succ]
  refine ⟨?_, ?_⟩
  · as_aux_lemma =>
    intro y_ hS_ hO_ hD
    have Q := ((hS_ (by rfl)).2.2.2.1).cell
    have q0 := Q 0 _ rfl
    have q1 := Q 1 _ rfl
    have q2 := Q 2 _ rfl
    have q3 := Q 3 _ rfl
    clear Q hS_ hO_ hD
    refine s_gen (V := wideV B) [.pointer (some ⟨w.heap.size + 1, 0, none⟩)] (by kernel_rfl) (by kernel_rfl) (by kernel_rfl) ?_
    intro r_ hr_
    have o0_ : r_ (.tmp 7) = .pointer (some ⟨w.heap.size + 1, 0, none⟩) := op_at hr_ 0 (by kernel_rfl) (by kernel_rfl)
    clear hr_
    go_simp; first | done | with_reducible rfl
  simp only [Act.put, planVG, List.setIfInBounds_toArray, List.set_cons_zero, List.set_cons_succ, List.getElem?_cons_zero, List.getElem?_cons_succ]
  refine ⟨?_, ?_⟩
  · as_aux_lemma =>
    intro y_ hS_ hO_ hD
    clear hS_ hO_ hD
    refine s_gen (V := .int .i64 (L + 1)) [.int .i64 (L + 1)] (by kernel_rfl) (by kernel_rfl) (by kernel_rfl) ?_
    intro r_ hr_
    have o0_ : r_ (.tmp 10) = .int .i64 (L + 1) := op_at hr_ 0 (by kernel_rfl) (by kernel_rfl)
    clear hr_
    go_simp; first | done | with_reducible rfl | omega
  simp only [Act.put, planVG, List.setIfInBounds_toArray, List.set_cons_zero, List.set_cons_succ, List.getElem?_cons_zero, List.getElem?_cons_succ]
  refine ⟨?_, ?_⟩
  · as_aux_lemma =>
    intro y_ hS_ hO_ hD
    try clear hS
    clear hS_ hO_ hD
    refine s_gcallN (A := Q) [.func (.func 76) #[] #[], .int .i64 (y), wideV B, .int .i64 (L + 1)] ?_ ?_ (by kernel_rfl) (by kernel_rfl) (by kernel_rfl) ?_ ?_
    rotate_left 2
    · intro r_ hr_
      have o0_ : r_ (.func 76) = .func (.func 76) #[] #[] := op_at hr_ 0 (by kernel_rfl) (by kernel_rfl)
      have o1_ : r_ (.tmp 22) = .int .i64 (y) := op_at hr_ 1 (by kernel_rfl) (by kernel_rfl)
      have o2_ : r_ (.tmp 23) = wideV B := op_at hr_ 2 (by kernel_rfl) (by kernel_rfl)
      have o3_ : r_ (.tmp 24) = .int .i64 (L + 1) := op_at hr_ 3 (by kernel_rfl) (by kernel_rfl)
      clear hr_
      go_simp; first | done | with_reducible rfl | (constructor <;> with_reducible rfl)
    · refine refAt_to hB E2.out (by omega) (by omega) _
  simp only [Act.put, planVG, List.setIfInBounds_toArray, List.set_cons_zero, List.set_cons_succ, List.getElem?_cons_zero, List.getElem?_cons_succ]
  refine ⟨?_, ?_⟩
  · as_aux_lemma =>
    intro y_ hS_ hO_ hD
    have n_4 : IsN y_ (ρ 4) (P) := hD 4 (by decide) (by rfl)
    have n_8 : IsN y_ (ρ 8) (Q) := hD 8 (by decide) (by rfl)
    try clear hS
    clear hS_ hO_ hD
    refine s_gcallN (A := P + Q) [.func (.func 14) #[] #[], ρ 4, ρ 8] ?_ ?_ (by kernel_rfl) (by kernel_rfl) (by kernel_rfl) ?_ ?_
    rotate_left 2
    · intro r_ hr_
      have o0_ : r_ (.func 14) = .func (.func 14) #[] #[] := op_at hr_ 0 (by kernel_rfl) (by kernel_rfl)
      have o1_ : r_ (.tmp 21) = ρ 4 := op_at hr_ 1 (by kernel_rfl) (by kernel_rfl)
      have o2_ : r_ (.tmp 25) = ρ 8 := op_at hr_ 2 (by kernel_rfl) (by kernel_rfl)
      clear hr_
      go_simp; first | done | with_reducible rfl | (constructor <;> with_reducible rfl)
    · refine refAdd_any _ n_4 n_8 (by omega) (by omega)
  simp only [Act.put, planVG, List.setIfInBounds_toArray, List.set_cons_zero, List.set_cons_succ, List.getElem?_cons_zero, List.getElem?_cons_succ]
  refine ⟨?_, ?_⟩
  · as_aux_lemma =>
    intro y_ hS_ hO_ hD
    have n_9 : IsN y_ (ρ 9) (P + Q) := hD 9 (by decide) (by rfl)
    try clear hS
    clear hS_ hO_ hD
    refine s_gcall (V := wideV (add256 P Q)) [.func (.func 20) #[] #[], ρ 9] ?_ ?_ (by kernel_rfl) (by kernel_rfl) (by kernel_rfl) ?_ ?_
    rotate_left 2
    · intro r_ hr_
      have o0_ : r_ (.func 20) = .func (.func 20) #[] #[] := op_at hr_ 0 (by kernel_rfl) (by kernel_rfl)
      have o1_ : r_ (.tmp 26) = ρ 9 := op_at hr_ 1 (by kernel_rfl) (by kernel_rfl)
      clear hr_
      go_simp; first | done | with_reducible rfl | (constructor <;> with_reducible rfl)
    · refine Low_eq HW.out _ n_9 (by omega)
  simp only [Act.put, planVG, List.setIfInBounds_toArray, List.set_cons_zero, List.set_cons_succ, List.getElem?_cons_zero, List.getElem?_cons_succ]
  refine ⟨?_, ?_⟩
  · as_aux_lemma =>
    intro y_ hS_ hO_ hD
    clear hS_ hO_ hD
    refine s_gen (V := .int .i64 (L + 1)) [.int .i64 (L + 1)] (by kernel_rfl) (by kernel_rfl) (by kernel_rfl) ?_
    intro r_ hr_
    have o0_ : r_ (.tmp 17) = .int .i64 (L + 1) := op_at hr_ 0 (by kernel_rfl) (by kernel_rfl)
    clear hr_
    go_simp; first | done | with_reducible rfl | omega
  simp only [Act.put, planVG, List.setIfInBounds_toArray, List.set_cons_zero, List.set_cons_succ, List.getElem?_cons_zero, List.getElem?_cons_succ]
  as_aux_lemma =>
    intro w2 hS hF hD_
    change wpList _ _ _ _ _ _
    replace hS := sg_no (by decide) hS
    obtain ⟨hk, hZ2, X1, X2, X3⟩ := hS
    have M4 : IsN w2 (ρ 4) (P) := hF 4 (by decide)
    have M8 : IsN w2 (ρ 8) (Q) := hF 8 (by decide)
    have M9 : IsN w2 (ρ 9) (P + Q) := hF 9 (by decide)
    clear hF hD_
    generalize ρ 4 = u2_4 at *
    generalize ρ 8 = u2_8 at *
    generalize ρ 9 = u2_9 at *
    clear ρ
    have hz_w2 := hk.size
    have X1l := X1.lt
    have X1f := X1.free
    have X1l1 : w.heap.size < w2.heap.size + 1 := by omega
    have X1l2 : w.heap.size < w2.heap.size + 1 + 1 := by omega
    have X1l3 : w.heap.size < w2.heap.size + 1 + 1 + 1 := by omega
    have X10 := X1.cell 0 _ rfl
    have X11 := X1.cell 1 _ rfl
    have X12 := X1.cell 2 _ rfl
    have X13 := X1.cell 3 _ rfl
    have X2l := X2.lt
    have X2f := X2.free
    have X2l1 : w.heap.size + 1 < w2.heap.size + 1 := by omega
    have X2l2 : w.heap.size + 1 < w2.heap.size + 1 + 1 := by omega
    have X2l3 : w.heap.size + 1 < w2.heap.size + 1 + 1 + 1 := by omega
    have X20 := X2.cell 0 _ rfl
    have X21 := X2.cell 1 _ rfl
    have X22 := X2.cell 2 _ rfl
    have X23 := X2.cell 3 _ rfl
    have X3l := X3.lt
    have X3f := X3.free
    have X3l1 : w.heap.size + 1 + 1 < w2.heap.size + 1 := by omega
    have X3l2 : w.heap.size + 1 + 1 < w2.heap.size + 1 + 1 := by omega
    have X3l3 : w.heap.size + 1 + 1 < w2.heap.size + 1 + 1 + 1 := by omega
    have X30 := X3.cell 0 _ rfl
    have X31 := X3.cell 1 _ rfl
    have X32 := X3.cell 2 _ rfl
    have X33 := X3.cell 3 _ rfl
    clear M4
    clear M8
    clear M9
    go_wp2
    refine bodyPost_ret (v := .tuple #[.int .i64 (L + 1), wideV (add256 P Q)]) (by simp [results, Try.results52, go_sem, X30, X31, X32, X33]) rfl ⟨rfl, ?_⟩
    refine Kept.below ?_; repeat (first | with_reducible exact hk | with_reducible exact Kept.refl _ | with_reducible refine Kept.alloc ?_ _ | with_reducible refine Kept.drew ?_ | with_reducible refine Kept.setCell ?_ (by simp only [World.size_alloc, World.size_setCell, World.size_drew]; omega) _)

theorem ref17Sum_any {x y : Int} {A B : Nat} (hA : W256 A) (hB : W256 B) (w : World) :
    Calls Try.prog 52 #[.int .i64 x, wideV A, .int .i64 y, wideV B] w fun e w' => e = .returned (.tuple #[.int .i64 (levelI (expI x) A (expI y) B + 1), wideV (add256 (sideI (expI x) A (levelI (expI x) A (expI y) B + 1)) (sideI (expI y) B (levelI (expI x) A (expI y) B + 1)))]) ∧ Below w.heap.size w w' := by
  have hr := level_range A B (expI_range x) (expI_range y)
  exact ref17Sum_w hA hB (side_w hA _ _) (side_w hB _ _) hr.1 hr.2 rfl rfl rfl w
set_option maxRecDepth 100000 in
set_option maxHeartbeats 8000000 in
theorem ref17Diff_00 {x y L c : Int} {A B P Q : Nat} (hA : W256 A) (hB : W256 B) (hP : W256 P) (hQ : W256 Q) (l0 : -1099511627776 ≤ L) (l1 : L ≤ 1099511627776) (e0 : levelI (expI x) A (expI y) B = L) (e1 : sideI (expI x) A (L) = P) (e2 : sideI (expI y) B (L) = Q) (e3 : cmpT (expI x) A (expI y) B = c) (hc : ¬ c < 0) (hl : Q ≤ P) (w : World) :
    Calls Try.prog 53 #[.int .i64 x, wideV A, .int .i64 y, wideV B] w fun e w' => e = .returned (.tuple #[.int .i64 L, wideV (sub256 P Q), .bool false]) ∧ Below w.heap.size w w' := by
  have hk := Kept.refl w
  obtain ⟨Z, hZ⟩ : ∃ Z : Nat, 2 ^ 256 = Z := ⟨_, rfl⟩
  have HL := Lib.hid e0; have E1 := Lib.hid e1; have E2 := Lib.hid e2
  have w1_ : IntKind.i64.wrap (L + 1) = L + 1 := IntWalk.i64_in _ (by omega)
  have hP2 := hP.lt; have hQ2 := hQ.lt
  have lP := len256 hP
  have lQ := len256 hQ
  have HC := Lib.hid e3
  have HW := Lib.hid (show wideV (P - Q) = wideV (sub256 P Q) from wide_mod (by unfold sub256; omega))
  have HLE := Lib.hid (show Q ≤ P by omega)
  have c1 : ¬ cmpN P Q < 0 := by rw [cmp_neg]; omega
  have lenZ : lenN Z ≤ 9 := lenN_le 9 Z (by omega)
  have ln : lenN P ≤ 9 := lenN_le 9 _ (by omega)
  have ld : lenN (P - Q) ≤ 9 := lenN_le 9 _ (by omega)
  have HF := Lib.hid hZ
  clear e0 e1 e2 e3 hZ hl hP2 hQ2
  go_enter Try.func53, Try.ntmps53
  go_wp2_with fail
  (with_reducible refine (calls_to (V := .int .i64 (L)) (refLevel_any hA hB _) (by rw [HL.out])).mono ?_)
  rintro e w1 ⟨rfl, hb⟩
  have X1' : Box w1 (w.heap.size) #[.int .u64 (limb 0 A), .int .u64 (limb 1 A), .int .u64 (limb 2 A), .int .u64 (limb 3 A)] := Box.call hb (by repeat (first | with_reducible assumption | with_reducible apply Box.set10 | with_reducible apply Box.set20 | with_reducible apply Box.set21 | with_reducible apply Box.set40 | with_reducible apply Box.set41 | with_reducible apply Box.set42 | with_reducible apply Box.set43 | with_reducible apply Box.set50 | with_reducible apply Box.set51 | with_reducible apply Box.set52 | with_reducible apply Box.set53 | with_reducible apply Box.set54 | with_reducible apply Box.drew | (with_reducible apply Box.newAt; (try simp only [World.size_alloc, World.size_setCell, World.size_drew]); done) | with_reducible apply Box.alloc | (with_reducible apply Box.other; case hne => ((try simp only [World.size_alloc, World.size_setCell, World.size_drew]); omega))))
  have X2' : Box w1 (w.heap.size + 1) #[.int .u64 (limb 0 B), .int .u64 (limb 1 B), .int .u64 (limb 2 B), .int .u64 (limb 3 B)] := Box.call hb (by repeat (first | with_reducible assumption | with_reducible apply Box.set10 | with_reducible apply Box.set20 | with_reducible apply Box.set21 | with_reducible apply Box.set40 | with_reducible apply Box.set41 | with_reducible apply Box.set42 | with_reducible apply Box.set43 | with_reducible apply Box.set50 | with_reducible apply Box.set51 | with_reducible apply Box.set52 | with_reducible apply Box.set53 | with_reducible apply Box.set54 | with_reducible apply Box.drew | (with_reducible apply Box.newAt; (try simp only [World.size_alloc, World.size_setCell, World.size_drew]); done) | with_reducible apply Box.alloc | (with_reducible apply Box.other; case hne => ((try simp only [World.size_alloc, World.size_setCell, World.size_drew]); omega))))
  have X3' : Box w1 (w.heap.size + 1 + 1) #[.int .u64 0, .int .u64 0, .int .u64 0, .int .u64 0] := Box.call hb (by repeat (first | with_reducible assumption | with_reducible apply Box.set10 | with_reducible apply Box.set20 | with_reducible apply Box.set21 | with_reducible apply Box.set40 | with_reducible apply Box.set41 | with_reducible apply Box.set42 | with_reducible apply Box.set43 | with_reducible apply Box.set50 | with_reducible apply Box.set51 | with_reducible apply Box.set52 | with_reducible apply Box.set53 | with_reducible apply Box.set54 | with_reducible apply Box.drew | (with_reducible apply Box.newAt; (try simp only [World.size_alloc, World.size_setCell, World.size_drew]); done) | with_reducible apply Box.alloc | (with_reducible apply Box.other; case hne => ((try simp only [World.size_alloc, World.size_setCell, World.size_drew]); omega))))
  have hk' : Kept w.heap.size w w1 := Kept.step (by repeat (first | with_reducible exact hk | with_reducible exact Kept.refl _ | with_reducible refine Kept.alloc ?_ _ | with_reducible refine Kept.drew ?_ | with_reducible refine Kept.setCell ?_ (by simp only [World.size_alloc, World.size_setCell, World.size_drew]; omega) _)) hb
  clear hk hb
  have X1 := X1'
  clear X1'
  have X2 := X2'
  clear X2'
  have X3 := X3'
  clear X3'
  have hk := hk'
  clear hk'
  have hz_w1 := hk.size
  have X1l := X1.lt
  have X1f := X1.free
  have X1l1 : w.heap.size < w1.heap.size + 1 := by omega
  have X1l2 : w.heap.size < w1.heap.size + 1 + 1 := by omega
  have X1l3 : w.heap.size < w1.heap.size + 1 + 1 + 1 := by omega
  have X10 := X1.cell 0 _ rfl
  have X11 := X1.cell 1 _ rfl
  have X12 := X1.cell 2 _ rfl
  have X13 := X1.cell 3 _ rfl
  have X2l := X2.lt
  have X2f := X2.free
  have X2l1 : w.heap.size + 1 < w1.heap.size + 1 := by omega
  have X2l2 : w.heap.size + 1 < w1.heap.size + 1 + 1 := by omega
  have X2l3 : w.heap.size + 1 < w1.heap.size + 1 + 1 + 1 := by omega
  have X20 := X2.cell 0 _ rfl
  have X21 := X2.cell 1 _ rfl
  have X22 := X2.cell 2 _ rfl
  have X23 := X2.cell 3 _ rfl
  have X3l := X3.lt
  have X3f := X3.free
  have X3l1 : w.heap.size + 1 + 1 < w1.heap.size + 1 := by omega
  have X3l2 : w.heap.size + 1 + 1 < w1.heap.size + 1 + 1 := by omega
  have X3l3 : w.heap.size + 1 + 1 < w1.heap.size + 1 + 1 + 1 := by omega
  have X30 := X3.cell 0 _ rfl
  have X31 := X3.cell 1 _ rfl
  have X32 := X3.cell 2 _ rfl
  have X33 := X3.cell 3 _ rfl
  go_wp2
  refine wp_region_g 10 (fun W' => Kept w.heap.size w W' ∧ w1.heap.size ≤ W'.heap.size ∧ Box W' (w.heap.size) #[.int .u64 (limb 0 A), .int .u64 (limb 1 A), .int .u64 (limb 2 A), .int .u64 (limb 3 A)] ∧ Box W' (w.heap.size + 1) #[.int .u64 (limb 0 B), .int .u64 (limb 1 B), .int .u64 (limb 2 B), .int .u64 (limb 3 B)] ∧ Box W' (w.heap.size + 1 + 1) #[.int .u64 0, .int .u64 0, .int .u64 0, .int .u64 0]) (fun W' => Kept w.heap.size w W' ∧ w1.heap.size ≤ W'.heap.size ∧ Box W' (w.heap.size) #[.int .u64 (limb 0 A), .int .u64 (limb 1 A), .int .u64 (limb 2 A), .int .u64 (limb 3 A)] ∧ Box W' (w.heap.size + 1) #[.int .u64 (limb 0 B), .int .u64 (limb 1 B), .int .u64 (limb 2 B), .int .u64 (limb 3 B)] ∧ Box W' (w.heap.size + 1 + 1) #[.int .u64 0, .int .u64 0, .int .u64 0, .int .u64 0]) 1000 (w1.heap.size) [.known (.int .i64 (x)), .known (wideV A), .known (.int .i64 (L)), .num (P), .known (.int .i64 (y)), .known (wideV B), .known (.int .i64 (L)), .num (Q), .num (P), .num (Q)] (by kernel_rfl) (by kernel_rfl) (fun W W' h hb => ⟨h.1.step hb, Nat.le_trans (h.2.1) hb.size, Box.call hb (h.2.2.1), Box.call hb (h.2.2.2.1), Box.call hb (h.2.2.2.2)⟩) (fun W W' h hb => ⟨h.1.step hb, Nat.le_trans (h.2.1) hb.size, Box.call hb (h.2.2.1), Box.call hb (h.2.2.2.1), Box.call hb (h.2.2.2.2)⟩) (no_out (of_decide_eq_true (by kernel_rfl))) (.inl (by kernel_rfl)) (.inl (by kernel_rfl)) (fun _ h => h.2.1) (fun _ h => h.2.1) (⟨(by repeat (first | with_reducible exact hk | with_reducible exact Kept.refl _ | with_reducible refine Kept.alloc ?_ _ | with_reducible refine Kept.drew ?_ | with_reducible refine Kept.setCell ?_ (by simp only [World.size_alloc, World.size_setCell, World.size_drew]; omega) _)), (by (try simp only [World.size_alloc, World.size_setCell, World.size_drew]); omega), (by repeat (first | with_reducible assumption | with_reducible apply Box.set10 | with_reducible apply Box.set20 | with_reducible apply Box.set21 | with_reducible apply Box.set40 | with_reducible apply Box.set41 | with_reducible apply Box.set42 | with_reducible apply Box.set43 | with_reducible apply Box.set50 | with_reducible apply Box.set51 | with_reducible apply Box.set52 | with_reducible apply Box.set53 | with_reducible apply Box.set54 | with_reducible apply Box.drew | (with_reducible apply Box.newAt; (try simp only [World.size_alloc, World.size_setCell, World.size_drew]); done) | with_reducible apply Box.alloc | (with_reducible apply Box.other; case hne => ((try simp only [World.size_alloc, World.size_setCell, World.size_drew]); omega)))), (by repeat (first | with_reducible assumption | with_reducible apply Box.set10 | with_reducible apply Box.set20 | with_reducible apply Box.set21 | with_reducible apply Box.set40 | with_reducible apply Box.set41 | with_reducible apply Box.set42 | with_reducible apply Box.set43 | with_reducible apply Box.set50 | with_reducible apply Box.set51 | with_reducible apply Box.set52 | with_reducible apply Box.set53 | with_reducible apply Box.set54 | with_reducible apply Box.drew | (with_reducible apply Box.newAt; (try simp only [World.size_alloc, World.size_setCell, World.size_drew]); done) | with_reducible apply Box.alloc | (with_reducible apply Box.other; case hne => ((try simp only [World.size_alloc, World.size_setCell, World.size_drew]); omega)))), (by repeat (first | with_reducible assumption | with_reducible apply Box.set10 | with_reducible apply Box.set20 | with_reducible apply Box.set21 | with_reducible apply Box.set40 | with_reducible apply Box.set41 | with_reducible apply Box.set42 | with_reducible apply Box.set43 | with_reducible apply Box.set50 | with_reducible apply Box.set51 | with_reducible apply Box.set52 | with_reducible apply Box.set53 | with_reducible apply Box.set54 | with_reducible apply Box.drew | (with_reducible apply Box.newAt; (try simp only [World.size_alloc, World.size_setCell, World.size_drew]); done) | with_reducible apply Box.alloc | (with_reducible apply Box.other; case hne => ((try simp only [World.size_alloc, World.size_setCell, World.size_drew]); omega))))⟩) ?_
  clear hk
  clear X1 X1l1 X1l2 X1l3 X1f X10 X11 X12 X13
  clear X2 X2l1 X2l2 X2l3 X2f X20 X21 X22 X23
  clear X3 X3l1 X3l2 X3l3 X3f X30 X31 X32 X33
  intro ρ
  simp only [List.take_succ_cons, List.take_zero, List.drop_succ_cons, List.drop_zero]
  refine ⟨?_, ?_⟩
  · as_aux_lemma =>
    intro y_ hS_ hO_ hD
    clear hS_ hO_ hD
    refine s_gen (V := .int .i64 (x)) [.int .i64 (x)] (by kernel_rfl) (by kernel_rfl) (by kernel_rfl) ?_
    intro r_ hr_
    have o0_ : r_ (.tmp 0) = .int .i64 (x) := op_at hr_ 0 (by kernel_rfl) (by kernel_rfl)
    clear hr_
    go_simp; first | done | with_reducible rfl | omega
  simp only [Act.put, planVG, List.setIfInBounds_toArray, List.set_cons_zero, List.set_cons_succ, List.getElem?_cons_zero, List.getElem?_cons_succ]
  refine ⟨?_, ?_⟩
  · as_aux_lemma =>
    intro y_ hS_ hO_ hD
    have Q := ((hS_ (by rfl)).2.2.1).cell
    have q0 := Q 0 _ rfl
    have q1 := Q 1 _ rfl
    have q2 := Q 2 _ rfl
    have q3 := Q 3 _ rfl
    clear Q hS_ hO_ hD
    refine s_gen (V := wideV A) [.pointer (some ⟨w.heap.size, 0, none⟩)] (by kernel_rfl) (by kernel_rfl) (by kernel_rfl) ?_
    intro r_ hr_
    have o0_ : r_ (.tmp 5) = .pointer (some ⟨w.heap.size, 0, none⟩) := op_at hr_ 0 (by kernel_rfl) (by kernel_rfl)
    clear hr_
    go_simp; first | done | with_reducible rfl
  simp only [Act.put, planVG, List.setIfInBounds_toArray, List.set_cons_zero, List.set_cons_succ, List.getElem?_cons_zero, List.getElem?_cons_succ]
  refine ⟨?_, ?_⟩
  · as_aux_lemma =>
    intro y_ hS_ hO_ hD
    clear hS_ hO_ hD
    refine s_gen (V := .int .i64 (L)) [.int .i64 (L)] (by kernel_rfl) (by kernel_rfl) (by kernel_rfl) ?_
    intro r_ hr_
    have o0_ : r_ (.tmp 11) = .int .i64 (L) := op_at hr_ 0 (by kernel_rfl) (by kernel_rfl)
    clear hr_
    go_simp; first | done | with_reducible rfl | omega
  simp only [Act.put, planVG, List.setIfInBounds_toArray, List.set_cons_zero, List.set_cons_succ, List.getElem?_cons_zero, List.getElem?_cons_succ]
  refine ⟨?_, ?_⟩
  · as_aux_lemma =>
    intro y_ hS_ hO_ hD
    try clear hS
    clear hS_ hO_ hD
    refine s_gcallN (A := P) [.func (.func 76) #[] #[], .int .i64 (x), wideV A, .int .i64 (L)] ?_ ?_ (by kernel_rfl) (by kernel_rfl) (by kernel_rfl) ?_ ?_
    rotate_left 2
    · intro r_ hr_
      have o0_ : r_ (.func 76) = .func (.func 76) #[] #[] := op_at hr_ 0 (by kernel_rfl) (by kernel_rfl)
      have o1_ : r_ (.tmp 20) = .int .i64 (x) := op_at hr_ 1 (by kernel_rfl) (by kernel_rfl)
      have o2_ : r_ (.tmp 21) = wideV A := op_at hr_ 2 (by kernel_rfl) (by kernel_rfl)
      have o3_ : r_ (.tmp 22) = .int .i64 (L) := op_at hr_ 3 (by kernel_rfl) (by kernel_rfl)
      clear hr_
      go_simp; first | done | with_reducible rfl | (constructor <;> with_reducible rfl)
    · refine refAt_to hA E1.out (by omega) (by omega) _
  simp only [Act.put, planVG, List.setIfInBounds_toArray, List.set_cons_zero, List.set_cons_succ, List.getElem?_cons_zero, List.getElem?_cons_succ]
  refine ⟨?_, ?_⟩
  · as_aux_lemma =>
    intro y_ hS_ hO_ hD
    clear hS_ hO_ hD
    refine s_gen (V := .int .i64 (y)) [.int .i64 (y)] (by kernel_rfl) (by kernel_rfl) (by kernel_rfl) ?_
    intro r_ hr_
    have o0_ : r_ (.tmp 2) = .int .i64 (y) := op_at hr_ 0 (by kernel_rfl) (by kernel_rfl)
    clear hr_
    go_simp; first | done | with_reducible rfl | omega
  simp only [Act.put, planVG, List.setIfInBounds_toArray, List.set_cons_zero, List.set_cons_succ, List.getElem?_cons_zero, List.getElem?_cons_succ]
  refine ⟨?_, ?_⟩
  · as_aux_lemma =>
    intro y_ hS_ hO_ hD
    have Q := ((hS_ (by rfl)).2.2.2.1).cell
    have q0 := Q 0 _ rfl
    have q1 := Q 1 _ rfl
    have q2 := Q 2 _ rfl
    have q3 := Q 3 _ rfl
    clear Q hS_ hO_ hD
    refine s_gen (V := wideV B) [.pointer (some ⟨w.heap.size + 1, 0, none⟩)] (by kernel_rfl) (by kernel_rfl) (by kernel_rfl) ?_
    intro r_ hr_
    have o0_ : r_ (.tmp 7) = .pointer (some ⟨w.heap.size + 1, 0, none⟩) := op_at hr_ 0 (by kernel_rfl) (by kernel_rfl)
    clear hr_
    go_simp; first | done | with_reducible rfl
  simp only [Act.put, planVG, List.setIfInBounds_toArray, List.set_cons_zero, List.set_cons_succ, List.getElem?_cons_zero, List.getElem?_cons_succ]
  refine ⟨?_, ?_⟩
  · as_aux_lemma =>
    intro y_ hS_ hO_ hD
    clear hS_ hO_ hD
    refine s_gen (V := .int .i64 (L)) [.int .i64 (L)] (by kernel_rfl) (by kernel_rfl) (by kernel_rfl) ?_
    intro r_ hr_
    have o0_ : r_ (.tmp 11) = .int .i64 (L) := op_at hr_ 0 (by kernel_rfl) (by kernel_rfl)
    clear hr_
    go_simp; first | done | with_reducible rfl | omega
  simp only [Act.put, planVG, List.setIfInBounds_toArray, List.set_cons_zero, List.set_cons_succ, List.getElem?_cons_zero, List.getElem?_cons_succ]
  refine ⟨?_, ?_⟩
  · as_aux_lemma =>
    intro y_ hS_ hO_ hD
    try clear hS
    clear hS_ hO_ hD
    refine s_gcallN (A := Q) [.func (.func 76) #[] #[], .int .i64 (y), wideV B, .int .i64 (L)] ?_ ?_ (by kernel_rfl) (by kernel_rfl) (by kernel_rfl) ?_ ?_
    rotate_left 2
    · intro r_ hr_
      have o0_ : r_ (.func 76) = .func (.func 76) #[] #[] := op_at hr_ 0 (by kernel_rfl) (by kernel_rfl)
      have o1_ : r_ (.tmp 24) = .int .i64 (y) := op_at hr_ 1 (by kernel_rfl) (by kernel_rfl)
      have o2_ : r_ (.tmp 25) = wideV B := op_at hr_ 2 (by kernel_rfl) (by kernel_rfl)
      have o3_ : r_ (.tmp 26) = .int .i64 (L) := op_at hr_ 3 (by kernel_rfl) (by kernel_rfl)
      clear hr_
      go_simp; first | done | with_reducible rfl | (constructor <;> with_reducible rfl)
    · refine refAt_to hB E2.out (by omega) (by omega) _
  simp only [Act.put, planVG, List.setIfInBounds_toArray, List.set_cons_zero, List.set_cons_succ, List.getElem?_cons_zero, List.getElem?_cons_succ]
  refine ⟨?_, ?_⟩
  · as_aux_lemma =>
    intro y_ hS_ hO_ hD
    have hS := hS_ (by rfl)
    have n_ : IsN y_ (ρ 3) (P) := hD 3 (by decide) (by rfl)
    clear hS hS_ hO_ hD
    exact s_num (by rfl) (by rfl) (by rfl) n_
  simp only [Act.put, planVG, List.setIfInBounds_toArray, List.set_cons_zero, List.set_cons_succ, List.getElem?_cons_zero, List.getElem?_cons_succ]
  refine ⟨?_, ?_⟩
  · as_aux_lemma =>
    intro y_ hS_ hO_ hD
    have hS := hS_ (by rfl)
    have n_ : IsN y_ (ρ 7) (Q) := hD 7 (by decide) (by rfl)
    clear hS hS_ hO_ hD
    exact s_num (by rfl) (by rfl) (by rfl) n_
  simp only [Act.put, planVG, List.setIfInBounds_toArray, List.set_cons_zero, List.set_cons_succ, List.getElem?_cons_zero, List.getElem?_cons_succ]
  as_aux_lemma =>
    intro w2 hS hF hD_
    change wpList _ _ _ _ _ _
    replace hS := sg_no (by decide) hS
    obtain ⟨hk, hZ2, X1, X2, X3⟩ := hS
    have M3 : IsN w2 (ρ 3) (P) := hF 3 (by decide)
    have M7 : IsN w2 (ρ 7) (Q) := hF 7 (by decide)
    have M8 : IsN w2 (ρ 8) (P) := hF 8 (by decide)
    have M9 : IsN w2 (ρ 9) (Q) := hF 9 (by decide)
    clear hF hD_
    generalize ρ 3 = u2_3 at *
    generalize ρ 7 = u2_7 at *
    generalize ρ 8 = u2_8 at *
    generalize ρ 9 = u2_9 at *
    clear ρ
    have hz_w2 := hk.size
    have X1l := X1.lt
    have X1f := X1.free
    have X1l1 : w.heap.size < w2.heap.size + 1 := by omega
    have X1l2 : w.heap.size < w2.heap.size + 1 + 1 := by omega
    have X1l3 : w.heap.size < w2.heap.size + 1 + 1 + 1 := by omega
    have X10 := X1.cell 0 _ rfl
    have X11 := X1.cell 1 _ rfl
    have X12 := X1.cell 2 _ rfl
    have X13 := X1.cell 3 _ rfl
    have X2l := X2.lt
    have X2f := X2.free
    have X2l1 : w.heap.size + 1 < w2.heap.size + 1 := by omega
    have X2l2 : w.heap.size + 1 < w2.heap.size + 1 + 1 := by omega
    have X2l3 : w.heap.size + 1 < w2.heap.size + 1 + 1 + 1 := by omega
    have X20 := X2.cell 0 _ rfl
    have X21 := X2.cell 1 _ rfl
    have X22 := X2.cell 2 _ rfl
    have X23 := X2.cell 3 _ rfl
    have X3l := X3.lt
    have X3f := X3.free
    have X3l1 : w.heap.size + 1 + 1 < w2.heap.size + 1 := by omega
    have X3l2 : w.heap.size + 1 + 1 < w2.heap.size + 1 + 1 := by omega
    have X3l3 : w.heap.size + 1 + 1 < w2.heap.size + 1 + 1 + 1 := by omega
    have X30 := X3.cell 0 _ rfl
    have X31 := X3.cell 1 _ rfl
    have X32 := X3.cell 2 _ rfl
    have X33 := X3.cell 3 _ rfl
    clear M3
    clear M7
    have N3 := M8
    clear M8
    have N4 := M9
    clear M9
    go_wp2_with fail
    (with_reducible refine (calls_to (V := .int .i64 (c)) (ref17Cmp_any hA hB _) (by rw [HC.out])).mono ?_)
    rintro e w3 ⟨rfl, hb⟩
    have X3' : Box w3 (w.heap.size + 1 + 1) #[.int .u64 0, .int .u64 0, .int .u64 0, .int .u64 0] := Box.call hb (by repeat (first | with_reducible assumption | with_reducible apply Box.set10 | with_reducible apply Box.set20 | with_reducible apply Box.set21 | with_reducible apply Box.set40 | with_reducible apply Box.set41 | with_reducible apply Box.set42 | with_reducible apply Box.set43 | with_reducible apply Box.set50 | with_reducible apply Box.set51 | with_reducible apply Box.set52 | with_reducible apply Box.set53 | with_reducible apply Box.set54 | with_reducible apply Box.drew | (with_reducible apply Box.newAt; (try simp only [World.size_alloc, World.size_setCell, World.size_drew]); done) | with_reducible apply Box.alloc | (with_reducible apply Box.other; case hne => ((try simp only [World.size_alloc, World.size_setCell, World.size_drew]); omega))))
    have N3' : IsN w3 u2_8 (P) := (IsN.kept N3 (by repeat (first | with_reducible exact Kept.refl _ | with_reducible refine Kept.alloc ?_ _ | with_reducible refine Kept.drew ?_ | with_reducible refine Kept.setCell ?_ (by simp only [World.size_alloc, World.size_setCell, World.size_drew]; omega) _))).call hb
    have N4' : IsN w3 u2_9 (Q) := (IsN.kept N4 (by repeat (first | with_reducible exact Kept.refl _ | with_reducible refine Kept.alloc ?_ _ | with_reducible refine Kept.drew ?_ | with_reducible refine Kept.setCell ?_ (by simp only [World.size_alloc, World.size_setCell, World.size_drew]; omega) _))).call hb
    have hk' : Kept w.heap.size w w3 := Kept.step (by repeat (first | with_reducible exact hk | with_reducible exact Kept.refl _ | with_reducible refine Kept.alloc ?_ _ | with_reducible refine Kept.drew ?_ | with_reducible refine Kept.setCell ?_ (by simp only [World.size_alloc, World.size_setCell, World.size_drew]; omega) _)) hb
    clear hk hb
    clear X1 X1l1 X1l2 X1l3 X1f X10 X11 X12 X13
    clear X2 X2l1 X2l2 X2l3 X2f X20 X21 X22 X23
    clear X3 X3l1 X3l2 X3l3 X3f X30 X31 X32 X33
    have X3 := X3'
    clear X3'
    clear N3
    have N3 := N3'
    clear N3'
    clear N4
    have N4 := N4'
    clear N4'
    have hk := hk'
    clear hk'
    have hz_w3 := hk.size
    have X3l := X3.lt
    have X3f := X3.free
    have X3l1 : w.heap.size + 1 + 1 < w3.heap.size + 1 := by omega
    have X3l2 : w.heap.size + 1 + 1 < w3.heap.size + 1 + 1 := by omega
    have X3l3 : w.heap.size + 1 + 1 < w3.heap.size + 1 + 1 + 1 := by omega
    have X30 := X3.cell 0 _ rfl
    have X31 := X3.cell 1 _ rfl
    have X32 := X3.cell 2 _ rfl
    have X33 := X3.cell 3 _ rfl
    go_wp2_with fail
    (with_reducible refine (refCmp_any _ (IsN.kept N3 (by repeat (first | with_reducible exact Kept.refl _ | with_reducible refine Kept.alloc ?_ _ | with_reducible refine Kept.drew ?_ | with_reducible refine Kept.setCell ?_ (by simp only [World.size_alloc, World.size_setCell, World.size_drew]; omega) _))) (IsN.kept N4 (by repeat (first | with_reducible exact Kept.refl _ | with_reducible refine Kept.alloc ?_ _ | with_reducible refine Kept.drew ?_ | with_reducible refine Kept.setCell ?_ (by simp only [World.size_alloc, World.size_setCell, World.size_drew]; omega) _))) (by omega) (by omega)).mono ?_)
    rintro e w4 ⟨rfl, hb⟩
    have X3' : Box w4 (w.heap.size + 1 + 1) #[.int .u64 0, .int .u64 0, .int .u64 0, .int .u64 0] := Box.call hb (by repeat (first | with_reducible assumption | with_reducible apply Box.set10 | with_reducible apply Box.set20 | with_reducible apply Box.set21 | with_reducible apply Box.set40 | with_reducible apply Box.set41 | with_reducible apply Box.set42 | with_reducible apply Box.set43 | with_reducible apply Box.set50 | with_reducible apply Box.set51 | with_reducible apply Box.set52 | with_reducible apply Box.set53 | with_reducible apply Box.set54 | with_reducible apply Box.drew | (with_reducible apply Box.newAt; (try simp only [World.size_alloc, World.size_setCell, World.size_drew]); done) | with_reducible apply Box.alloc | (with_reducible apply Box.other; case hne => ((try simp only [World.size_alloc, World.size_setCell, World.size_drew]); omega))))
    have N3' : IsN w4 u2_8 (P) := (IsN.kept N3 (by repeat (first | with_reducible exact Kept.refl _ | with_reducible refine Kept.alloc ?_ _ | with_reducible refine Kept.drew ?_ | with_reducible refine Kept.setCell ?_ (by simp only [World.size_alloc, World.size_setCell, World.size_drew]; omega) _))).call hb
    have N4' : IsN w4 u2_9 (Q) := (IsN.kept N4 (by repeat (first | with_reducible exact Kept.refl _ | with_reducible refine Kept.alloc ?_ _ | with_reducible refine Kept.drew ?_ | with_reducible refine Kept.setCell ?_ (by simp only [World.size_alloc, World.size_setCell, World.size_drew]; omega) _))).call hb
    have hk' : Kept w.heap.size w w4 := Kept.step (by repeat (first | with_reducible exact hk | with_reducible exact Kept.refl _ | with_reducible refine Kept.alloc ?_ _ | with_reducible refine Kept.drew ?_ | with_reducible refine Kept.setCell ?_ (by simp only [World.size_alloc, World.size_setCell, World.size_drew]; omega) _)) hb
    clear hk hb
    clear X3 X3l1 X3l2 X3l3 X3f X30 X31 X32 X33
    have X3 := X3'
    clear X3'
    clear N3
    have N3 := N3'
    clear N3'
    clear N4
    have N4 := N4'
    clear N4'
    have hk := hk'
    clear hk'
    have hz_w4 := hk.size
    have X3l := X3.lt
    have X3f := X3.free
    have X3l1 : w.heap.size + 1 + 1 < w4.heap.size + 1 := by omega
    have X3l2 : w.heap.size + 1 + 1 < w4.heap.size + 1 + 1 := by omega
    have X3l3 : w.heap.size + 1 + 1 < w4.heap.size + 1 + 1 + 1 := by omega
    have X30 := X3.cell 0 _ rfl
    have X31 := X3.cell 1 _ rfl
    have X32 := X3.cell 2 _ rfl
    have X33 := X3.cell 3 _ rfl
    go_wp2_with fail
    (with_reducible refine (refSub_any _ (IsN.kept N3 (by repeat (first | with_reducible exact Kept.refl _ | with_reducible refine Kept.alloc ?_ _ | with_reducible refine Kept.drew ?_ | with_reducible refine Kept.setCell ?_ (by simp only [World.size_alloc, World.size_setCell, World.size_drew]; omega) _))) (IsN.kept N4 (by repeat (first | with_reducible exact Kept.refl _ | with_reducible refine Kept.alloc ?_ _ | with_reducible refine Kept.drew ?_ | with_reducible refine Kept.setCell ?_ (by simp only [World.size_alloc, World.size_setCell, World.size_drew]; omega) _))) (by omega) (by omega) HLE.out).mono ?_)
    rintro e w5 ⟨vN5, rfl, N5_, hb⟩
    have X3' : Box w5 (w.heap.size + 1 + 1) #[.int .u64 0, .int .u64 0, .int .u64 0, .int .u64 0] := Box.call hb (by repeat (first | with_reducible assumption | with_reducible apply Box.set10 | with_reducible apply Box.set20 | with_reducible apply Box.set21 | with_reducible apply Box.set40 | with_reducible apply Box.set41 | with_reducible apply Box.set42 | with_reducible apply Box.set43 | with_reducible apply Box.set50 | with_reducible apply Box.set51 | with_reducible apply Box.set52 | with_reducible apply Box.set53 | with_reducible apply Box.set54 | with_reducible apply Box.drew | (with_reducible apply Box.newAt; (try simp only [World.size_alloc, World.size_setCell, World.size_drew]); done) | with_reducible apply Box.alloc | (with_reducible apply Box.other; case hne => ((try simp only [World.size_alloc, World.size_setCell, World.size_drew]); omega))))
    have N3' : IsN w5 u2_8 (P) := (IsN.kept N3 (by repeat (first | with_reducible exact Kept.refl _ | with_reducible refine Kept.alloc ?_ _ | with_reducible refine Kept.drew ?_ | with_reducible refine Kept.setCell ?_ (by simp only [World.size_alloc, World.size_setCell, World.size_drew]; omega) _))).call hb
    have N4' : IsN w5 u2_9 (Q) := (IsN.kept N4 (by repeat (first | with_reducible exact Kept.refl _ | with_reducible refine Kept.alloc ?_ _ | with_reducible refine Kept.drew ?_ | with_reducible refine Kept.setCell ?_ (by simp only [World.size_alloc, World.size_setCell, World.size_drew]; omega) _))).call hb
    have hk' : Kept w.heap.size w w5 := Kept.step (by repeat (first | with_reducible exact hk | with_reducible exact Kept.refl _ | with_reducible refine Kept.alloc ?_ _ | with_reducible refine Kept.drew ?_ | with_reducible refine Kept.setCell ?_ (by simp only [World.size_alloc, World.size_setCell, World.size_drew]; omega) _)) hb
    clear hk hb
    clear X3 X3l1 X3l2 X3l3 X3f X30 X31 X32 X33
    have X3 := X3'
    clear X3'
    clear N3
    have N3 := N3'
    clear N3'
    clear N4
    have N4 := N4'
    clear N4'
    have hk := hk'
    clear hk'
    have hz_w5 := hk.size
    have X3l := X3.lt
    have X3f := X3.free
    have X3l1 : w.heap.size + 1 + 1 < w5.heap.size + 1 := by omega
    have X3l2 : w.heap.size + 1 + 1 < w5.heap.size + 1 + 1 := by omega
    have X3l3 : w.heap.size + 1 + 1 < w5.heap.size + 1 + 1 + 1 := by omega
    have X30 := X3.cell 0 _ rfl
    have X31 := X3.cell 1 _ rfl
    have X32 := X3.cell 2 _ rfl
    have X33 := X3.cell 3 _ rfl
    have N5 : IsN w5 vN5 (P - Q) := N5_
    clear N5_
    clear N3
    clear N4
    go_wp2_with fail
    (with_reducible refine (Low_eq HW.out _ (IsN.kept N5 (by repeat (first | with_reducible exact Kept.refl _ | with_reducible refine Kept.alloc ?_ _ | with_reducible refine Kept.drew ?_ | with_reducible refine Kept.setCell ?_ (by simp only [World.size_alloc, World.size_setCell, World.size_drew]; omega) _))) (by omega)).mono ?_)
    rintro e w6 ⟨rfl, hb⟩
    have X3' : Box w6 (w.heap.size + 1 + 1) #[.int .u64 0, .int .u64 0, .int .u64 0, .int .u64 0] := Box.call hb (by repeat (first | with_reducible assumption | with_reducible apply Box.set10 | with_reducible apply Box.set20 | with_reducible apply Box.set21 | with_reducible apply Box.set40 | with_reducible apply Box.set41 | with_reducible apply Box.set42 | with_reducible apply Box.set43 | with_reducible apply Box.set50 | with_reducible apply Box.set51 | with_reducible apply Box.set52 | with_reducible apply Box.set53 | with_reducible apply Box.set54 | with_reducible apply Box.drew | (with_reducible apply Box.newAt; (try simp only [World.size_alloc, World.size_setCell, World.size_drew]); done) | with_reducible apply Box.alloc | (with_reducible apply Box.other; case hne => ((try simp only [World.size_alloc, World.size_setCell, World.size_drew]); omega))))
    have N5' : IsN w6 vN5 (P - Q) := (IsN.kept N5 (by repeat (first | with_reducible exact Kept.refl _ | with_reducible refine Kept.alloc ?_ _ | with_reducible refine Kept.drew ?_ | with_reducible refine Kept.setCell ?_ (by simp only [World.size_alloc, World.size_setCell, World.size_drew]; omega) _))).call hb
    have hk' : Kept w.heap.size w w6 := Kept.step (by repeat (first | with_reducible exact hk | with_reducible exact Kept.refl _ | with_reducible refine Kept.alloc ?_ _ | with_reducible refine Kept.drew ?_ | with_reducible refine Kept.setCell ?_ (by simp only [World.size_alloc, World.size_setCell, World.size_drew]; omega) _)) hb
    clear hk hb
    clear X3 X3l1 X3l2 X3l3 X3f X30 X31 X32 X33
    have X3 := X3'
    clear X3'
    clear N5
    have N5 := N5'
    clear N5'
    have hk := hk'
    clear hk'
    have hz_w6 := hk.size
    have X3l := X3.lt
    have X3f := X3.free
    have X3l1 : w.heap.size + 1 + 1 < w6.heap.size + 1 := by omega
    have X3l2 : w.heap.size + 1 + 1 < w6.heap.size + 1 + 1 := by omega
    have X3l3 : w.heap.size + 1 + 1 < w6.heap.size + 1 + 1 + 1 := by omega
    have X30 := X3.cell 0 _ rfl
    have X31 := X3.cell 1 _ rfl
    have X32 := X3.cell 2 _ rfl
    have X33 := X3.cell 3 _ rfl
    go_wp2
    refine bodyPost_ret (v := .tuple #[.int .i64 L, wideV (sub256 P Q), .bool false]) (by simp [results, Try.results53, go_sem, X30, X31, X32, X33, hc]) rfl ⟨rfl, ?_⟩
    refine Kept.below ?_; repeat (first | with_reducible exact hk | with_reducible exact Kept.refl _ | with_reducible refine Kept.alloc ?_ _ | with_reducible refine Kept.drew ?_ | with_reducible refine Kept.setCell ?_ (by simp only [World.size_alloc, World.size_setCell, World.size_drew]; omega) _)

set_option maxRecDepth 100000 in
set_option maxHeartbeats 8000000 in
theorem ref17Diff_01 {x y L c : Int} {A B P Q : Nat} (hA : W256 A) (hB : W256 B) (hP : W256 P) (hQ : W256 Q) (l0 : -1099511627776 ≤ L) (l1 : L ≤ 1099511627776) (e0 : levelI (expI x) A (expI y) B = L) (e1 : sideI (expI x) A (L) = P) (e2 : sideI (expI y) B (L) = Q) (e3 : cmpT (expI x) A (expI y) B = c) (hc : ¬ c < 0) (hl : P < Q) (w : World) :
    Calls Try.prog 53 #[.int .i64 x, wideV A, .int .i64 y, wideV B] w fun e w' => e = .returned (.tuple #[.int .i64 L, wideV (sub256 P Q), .bool false]) ∧ Below w.heap.size w w' := by
  have hk := Kept.refl w
  obtain ⟨Z, hZ⟩ : ∃ Z : Nat, 2 ^ 256 = Z := ⟨_, rfl⟩
  have HL := Lib.hid e0; have E1 := Lib.hid e1; have E2 := Lib.hid e2
  have w1_ : IntKind.i64.wrap (L + 1) = L + 1 := IntWalk.i64_in _ (by omega)
  have hP2 := hP.lt; have hQ2 := hQ.lt
  have lP := len256 hP
  have lQ := len256 hQ
  have HC := Lib.hid e3
  have HW := Lib.hid (show wideV ((P + Z) - Q) = wideV (sub256 P Q) from wide_mod (by unfold sub256; omega))
  have HLE := Lib.hid (show Q ≤ (P + Z) by omega)
  have c1 : cmpN P Q < 0 := by rw [cmp_neg]; omega
  have lenZ : lenN Z ≤ 9 := lenN_le 9 Z (by omega)
  have ln : lenN (P + Z) ≤ 9 := lenN_le 9 _ (by omega)
  have ld : lenN ((P + Z) - Q) ≤ 9 := lenN_le 9 _ (by omega)
  have HF := Lib.hid hZ
  clear e0 e1 e2 e3 hZ hl hP2 hQ2
  go_enter Try.func53, Try.ntmps53
  go_wp2_with fail
  (with_reducible refine (calls_to (V := .int .i64 (L)) (refLevel_any hA hB _) (by rw [HL.out])).mono ?_)
  rintro e w1 ⟨rfl, hb⟩
  have X1' : Box w1 (w.heap.size) #[.int .u64 (limb 0 A), .int .u64 (limb 1 A), .int .u64 (limb 2 A), .int .u64 (limb 3 A)] := Box.call hb (by repeat (first | with_reducible assumption | with_reducible apply Box.set10 | with_reducible apply Box.set20 | with_reducible apply Box.set21 | with_reducible apply Box.set40 | with_reducible apply Box.set41 | with_reducible apply Box.set42 | with_reducible apply Box.set43 | with_reducible apply Box.set50 | with_reducible apply Box.set51 | with_reducible apply Box.set52 | with_reducible apply Box.set53 | with_reducible apply Box.set54 | with_reducible apply Box.drew | (with_reducible apply Box.newAt; (try simp only [World.size_alloc, World.size_setCell, World.size_drew]); done) | with_reducible apply Box.alloc | (with_reducible apply Box.other; case hne => ((try simp only [World.size_alloc, World.size_setCell, World.size_drew]); omega))))
  have X2' : Box w1 (w.heap.size + 1) #[.int .u64 (limb 0 B), .int .u64 (limb 1 B), .int .u64 (limb 2 B), .int .u64 (limb 3 B)] := Box.call hb (by repeat (first | with_reducible assumption | with_reducible apply Box.set10 | with_reducible apply Box.set20 | with_reducible apply Box.set21 | with_reducible apply Box.set40 | with_reducible apply Box.set41 | with_reducible apply Box.set42 | with_reducible apply Box.set43 | with_reducible apply Box.set50 | with_reducible apply Box.set51 | with_reducible apply Box.set52 | with_reducible apply Box.set53 | with_reducible apply Box.set54 | with_reducible apply Box.drew | (with_reducible apply Box.newAt; (try simp only [World.size_alloc, World.size_setCell, World.size_drew]); done) | with_reducible apply Box.alloc | (with_reducible apply Box.other; case hne => ((try simp only [World.size_alloc, World.size_setCell, World.size_drew]); omega))))
  have X3' : Box w1 (w.heap.size + 1 + 1) #[.int .u64 0, .int .u64 0, .int .u64 0, .int .u64 0] := Box.call hb (by repeat (first | with_reducible assumption | with_reducible apply Box.set10 | with_reducible apply Box.set20 | with_reducible apply Box.set21 | with_reducible apply Box.set40 | with_reducible apply Box.set41 | with_reducible apply Box.set42 | with_reducible apply Box.set43 | with_reducible apply Box.set50 | with_reducible apply Box.set51 | with_reducible apply Box.set52 | with_reducible apply Box.set53 | with_reducible apply Box.set54 | with_reducible apply Box.drew | (with_reducible apply Box.newAt; (try simp only [World.size_alloc, World.size_setCell, World.size_drew]); done) | with_reducible apply Box.alloc | (with_reducible apply Box.other; case hne => ((try simp only [World.size_alloc, World.size_setCell, World.size_drew]); omega))))
  have hk' : Kept w.heap.size w w1 := Kept.step (by repeat (first | with_reducible exact hk | with_reducible exact Kept.refl _ | with_reducible refine Kept.alloc ?_ _ | with_reducible refine Kept.drew ?_ | with_reducible refine Kept.setCell ?_ (by simp only [World.size_alloc, World.size_setCell, World.size_drew]; omega) _)) hb
  clear hk hb
  have X1 := X1'
  clear X1'
  have X2 := X2'
  clear X2'
  have X3 := X3'
  clear X3'
  have hk := hk'
  clear hk'
  have hz_w1 := hk.size
  have X1l := X1.lt
  have X1f := X1.free
  have X1l1 : w.heap.size < w1.heap.size + 1 := by omega
  have X1l2 : w.heap.size < w1.heap.size + 1 + 1 := by omega
  have X1l3 : w.heap.size < w1.heap.size + 1 + 1 + 1 := by omega
  have X10 := X1.cell 0 _ rfl
  have X11 := X1.cell 1 _ rfl
  have X12 := X1.cell 2 _ rfl
  have X13 := X1.cell 3 _ rfl
  have X2l := X2.lt
  have X2f := X2.free
  have X2l1 : w.heap.size + 1 < w1.heap.size + 1 := by omega
  have X2l2 : w.heap.size + 1 < w1.heap.size + 1 + 1 := by omega
  have X2l3 : w.heap.size + 1 < w1.heap.size + 1 + 1 + 1 := by omega
  have X20 := X2.cell 0 _ rfl
  have X21 := X2.cell 1 _ rfl
  have X22 := X2.cell 2 _ rfl
  have X23 := X2.cell 3 _ rfl
  have X3l := X3.lt
  have X3f := X3.free
  have X3l1 : w.heap.size + 1 + 1 < w1.heap.size + 1 := by omega
  have X3l2 : w.heap.size + 1 + 1 < w1.heap.size + 1 + 1 := by omega
  have X3l3 : w.heap.size + 1 + 1 < w1.heap.size + 1 + 1 + 1 := by omega
  have X30 := X3.cell 0 _ rfl
  have X31 := X3.cell 1 _ rfl
  have X32 := X3.cell 2 _ rfl
  have X33 := X3.cell 3 _ rfl
  go_wp2
  refine wp_region_g 10 (fun W' => Kept w.heap.size w W' ∧ w1.heap.size ≤ W'.heap.size ∧ Box W' (w.heap.size) #[.int .u64 (limb 0 A), .int .u64 (limb 1 A), .int .u64 (limb 2 A), .int .u64 (limb 3 A)] ∧ Box W' (w.heap.size + 1) #[.int .u64 (limb 0 B), .int .u64 (limb 1 B), .int .u64 (limb 2 B), .int .u64 (limb 3 B)] ∧ Box W' (w.heap.size + 1 + 1) #[.int .u64 0, .int .u64 0, .int .u64 0, .int .u64 0]) (fun W' => Kept w.heap.size w W' ∧ w1.heap.size ≤ W'.heap.size ∧ Box W' (w.heap.size) #[.int .u64 (limb 0 A), .int .u64 (limb 1 A), .int .u64 (limb 2 A), .int .u64 (limb 3 A)] ∧ Box W' (w.heap.size + 1) #[.int .u64 (limb 0 B), .int .u64 (limb 1 B), .int .u64 (limb 2 B), .int .u64 (limb 3 B)] ∧ Box W' (w.heap.size + 1 + 1) #[.int .u64 0, .int .u64 0, .int .u64 0, .int .u64 0]) 1000 (w1.heap.size) [.known (.int .i64 (x)), .known (wideV A), .known (.int .i64 (L)), .num (P), .known (.int .i64 (y)), .known (wideV B), .known (.int .i64 (L)), .num (Q), .num (P), .num (Q)] (by kernel_rfl) (by kernel_rfl) (fun W W' h hb => ⟨h.1.step hb, Nat.le_trans (h.2.1) hb.size, Box.call hb (h.2.2.1), Box.call hb (h.2.2.2.1), Box.call hb (h.2.2.2.2)⟩) (fun W W' h hb => ⟨h.1.step hb, Nat.le_trans (h.2.1) hb.size, Box.call hb (h.2.2.1), Box.call hb (h.2.2.2.1), Box.call hb (h.2.2.2.2)⟩) (no_out (of_decide_eq_true (by kernel_rfl))) (.inl (by kernel_rfl)) (.inl (by kernel_rfl)) (fun _ h => h.2.1) (fun _ h => h.2.1) (⟨(by repeat (first | with_reducible exact hk | with_reducible exact Kept.refl _ | with_reducible refine Kept.alloc ?_ _ | with_reducible refine Kept.drew ?_ | with_reducible refine Kept.setCell ?_ (by simp only [World.size_alloc, World.size_setCell, World.size_drew]; omega) _)), (by (try simp only [World.size_alloc, World.size_setCell, World.size_drew]); omega), (by repeat (first | with_reducible assumption | with_reducible apply Box.set10 | with_reducible apply Box.set20 | with_reducible apply Box.set21 | with_reducible apply Box.set40 | with_reducible apply Box.set41 | with_reducible apply Box.set42 | with_reducible apply Box.set43 | with_reducible apply Box.set50 | with_reducible apply Box.set51 | with_reducible apply Box.set52 | with_reducible apply Box.set53 | with_reducible apply Box.set54 | with_reducible apply Box.drew | (with_reducible apply Box.newAt; (try simp only [World.size_alloc, World.size_setCell, World.size_drew]); done) | with_reducible apply Box.alloc | (with_reducible apply Box.other; case hne => ((try simp only [World.size_alloc, World.size_setCell, World.size_drew]); omega)))), (by repeat (first | with_reducible assumption | with_reducible apply Box.set10 | with_reducible apply Box.set20 | with_reducible apply Box.set21 | with_reducible apply Box.set40 | with_reducible apply Box.set41 | with_reducible apply Box.set42 | with_reducible apply Box.set43 | with_reducible apply Box.set50 | with_reducible apply Box.set51 | with_reducible apply Box.set52 | with_reducible apply Box.set53 | with_reducible apply Box.set54 | with_reducible apply Box.drew | (with_reducible apply Box.newAt; (try simp only [World.size_alloc, World.size_setCell, World.size_drew]); done) | with_reducible apply Box.alloc | (with_reducible apply Box.other; case hne => ((try simp only [World.size_alloc, World.size_setCell, World.size_drew]); omega)))), (by repeat (first | with_reducible assumption | with_reducible apply Box.set10 | with_reducible apply Box.set20 | with_reducible apply Box.set21 | with_reducible apply Box.set40 | with_reducible apply Box.set41 | with_reducible apply Box.set42 | with_reducible apply Box.set43 | with_reducible apply Box.set50 | with_reducible apply Box.set51 | with_reducible apply Box.set52 | with_reducible apply Box.set53 | with_reducible apply Box.set54 | with_reducible apply Box.drew | (with_reducible apply Box.newAt; (try simp only [World.size_alloc, World.size_setCell, World.size_drew]); done) | with_reducible apply Box.alloc | (with_reducible apply Box.other; case hne => ((try simp only [World.size_alloc, World.size_setCell, World.size_drew]); omega))))⟩) ?_
  clear hk
  clear X1 X1l1 X1l2 X1l3 X1f X10 X11 X12 X13
  clear X2 X2l1 X2l2 X2l3 X2f X20 X21 X22 X23
  clear X3 X3l1 X3l2 X3l3 X3f X30 X31 X32 X33
  intro ρ
  simp only [List.take_succ_cons, List.take_zero, List.drop_succ_cons, List.drop_zero]
  refine ⟨?_, ?_⟩
  · as_aux_lemma =>
    intro y_ hS_ hO_ hD
    clear hS_ hO_ hD
    refine s_gen (V := .int .i64 (x)) [.int .i64 (x)] (by kernel_rfl) (by kernel_rfl) (by kernel_rfl) ?_
    intro r_ hr_
    have o0_ : r_ (.tmp 0) = .int .i64 (x) := op_at hr_ 0 (by kernel_rfl) (by kernel_rfl)
    clear hr_
    go_simp; first | done | with_reducible rfl | omega
  simp only [Act.put, planVG, List.setIfInBounds_toArray, List.set_cons_zero, List.set_cons_succ, List.getElem?_cons_zero, List.getElem?_cons_succ]
  refine ⟨?_, ?_⟩
  · as_aux_lemma =>
    intro y_ hS_ hO_ hD
    have Q := ((hS_ (by rfl)).2.2.1).cell
    have q0 := Q 0 _ rfl
    have q1 := Q 1 _ rfl
    have q2 := Q 2 _ rfl
    have q3 := Q 3 _ rfl
    clear Q hS_ hO_ hD
    refine s_gen (V := wideV A) [.pointer (some ⟨w.heap.size, 0, none⟩)] (by kernel_rfl) (by kernel_rfl) (by kernel_rfl) ?_
    intro r_ hr_
    have o0_ : r_ (.tmp 5) = .pointer (some ⟨w.heap.size, 0, none⟩) := op_at hr_ 0 (by kernel_rfl) (by kernel_rfl)
    clear hr_
    go_simp; first | done | with_reducible rfl
  simp only [Act.put, planVG, List.setIfInBounds_toArray, List.set_cons_zero, List.set_cons_succ, List.getElem?_cons_zero, List.getElem?_cons_succ]
  refine ⟨?_, ?_⟩
  · as_aux_lemma =>
    intro y_ hS_ hO_ hD
    clear hS_ hO_ hD
    refine s_gen (V := .int .i64 (L)) [.int .i64 (L)] (by kernel_rfl) (by kernel_rfl) (by kernel_rfl) ?_
    intro r_ hr_
    have o0_ : r_ (.tmp 11) = .int .i64 (L) := op_at hr_ 0 (by kernel_rfl) (by kernel_rfl)
    clear hr_
    go_simp; first | done | with_reducible rfl | omega
  simp only [Act.put, planVG, List.setIfInBounds_toArray, List.set_cons_zero, List.set_cons_succ, List.getElem?_cons_zero, List.getElem?_cons_succ]
  refine ⟨?_, ?_⟩
  · as_aux_lemma =>
    intro y_ hS_ hO_ hD
    try clear hS
    clear hS_ hO_ hD
    refine s_gcallN (A := P) [.func (.func 76) #[] #[], .int .i64 (x), wideV A, .int .i64 (L)] ?_ ?_ (by kernel_rfl) (by kernel_rfl) (by kernel_rfl) ?_ ?_
    rotate_left 2
    · intro r_ hr_
      have o0_ : r_ (.func 76) = .func (.func 76) #[] #[] := op_at hr_ 0 (by kernel_rfl) (by kernel_rfl)
      have o1_ : r_ (.tmp 20) = .int .i64 (x) := op_at hr_ 1 (by kernel_rfl) (by kernel_rfl)
      have o2_ : r_ (.tmp 21) = wideV A := op_at hr_ 2 (by kernel_rfl) (by kernel_rfl)
      have o3_ : r_ (.tmp 22) = .int .i64 (L) := op_at hr_ 3 (by kernel_rfl) (by kernel_rfl)
      clear hr_
      go_simp; first | done | with_reducible rfl | (constructor <;> with_reducible rfl)
    · refine refAt_to hA E1.out (by omega) (by omega) _
  simp only [Act.put, planVG, List.setIfInBounds_toArray, List.set_cons_zero, List.set_cons_succ, List.getElem?_cons_zero, List.getElem?_cons_succ]
  refine ⟨?_, ?_⟩
  · as_aux_lemma =>
    intro y_ hS_ hO_ hD
    clear hS_ hO_ hD
    refine s_gen (V := .int .i64 (y)) [.int .i64 (y)] (by kernel_rfl) (by kernel_rfl) (by kernel_rfl) ?_
    intro r_ hr_
    have o0_ : r_ (.tmp 2) = .int .i64 (y) := op_at hr_ 0 (by kernel_rfl) (by kernel_rfl)
    clear hr_
    go_simp; first | done | with_reducible rfl | omega
  simp only [Act.put, planVG, List.setIfInBounds_toArray, List.set_cons_zero, List.set_cons_succ, List.getElem?_cons_zero, List.getElem?_cons_succ]
  refine ⟨?_, ?_⟩
  · as_aux_lemma =>
    intro y_ hS_ hO_ hD
    have Q := ((hS_ (by rfl)).2.2.2.1).cell
    have q0 := Q 0 _ rfl
    have q1 := Q 1 _ rfl
    have q2 := Q 2 _ rfl
    have q3 := Q 3 _ rfl
    clear Q hS_ hO_ hD
    refine s_gen (V := wideV B) [.pointer (some ⟨w.heap.size + 1, 0, none⟩)] (by kernel_rfl) (by kernel_rfl) (by kernel_rfl) ?_
    intro r_ hr_
    have o0_ : r_ (.tmp 7) = .pointer (some ⟨w.heap.size + 1, 0, none⟩) := op_at hr_ 0 (by kernel_rfl) (by kernel_rfl)
    clear hr_
    go_simp; first | done | with_reducible rfl
  simp only [Act.put, planVG, List.setIfInBounds_toArray, List.set_cons_zero, List.set_cons_succ, List.getElem?_cons_zero, List.getElem?_cons_succ]
  refine ⟨?_, ?_⟩
  · as_aux_lemma =>
    intro y_ hS_ hO_ hD
    clear hS_ hO_ hD
    refine s_gen (V := .int .i64 (L)) [.int .i64 (L)] (by kernel_rfl) (by kernel_rfl) (by kernel_rfl) ?_
    intro r_ hr_
    have o0_ : r_ (.tmp 11) = .int .i64 (L) := op_at hr_ 0 (by kernel_rfl) (by kernel_rfl)
    clear hr_
    go_simp; first | done | with_reducible rfl | omega
  simp only [Act.put, planVG, List.setIfInBounds_toArray, List.set_cons_zero, List.set_cons_succ, List.getElem?_cons_zero, List.getElem?_cons_succ]
  refine ⟨?_, ?_⟩
  · as_aux_lemma =>
    intro y_ hS_ hO_ hD
    try clear hS
    clear hS_ hO_ hD
    refine s_gcallN (A := Q) [.func (.func 76) #[] #[], .int .i64 (y), wideV B, .int .i64 (L)] ?_ ?_ (by kernel_rfl) (by kernel_rfl) (by kernel_rfl) ?_ ?_
    rotate_left 2
    · intro r_ hr_
      have o0_ : r_ (.func 76) = .func (.func 76) #[] #[] := op_at hr_ 0 (by kernel_rfl) (by kernel_rfl)
      have o1_ : r_ (.tmp 24) = .int .i64 (y) := op_at hr_ 1 (by kernel_rfl) (by kernel_rfl)
      have o2_ : r_ (.tmp 25) = wideV B := op_at hr_ 2 (by kernel_rfl) (by kernel_rfl)
      have o3_ : r_ (.tmp 26) = .int .i64 (L) := op_at hr_ 3 (by kernel_rfl) (by kernel_rfl)
      clear hr_
      go_simp; first | done | with_reducible rfl | (constructor <;> with_reducible rfl)
    · refine refAt_to hB E2.out (by omega) (by omega) _
  simp only [Act.put, planVG, List.setIfInBounds_toArray, List.set_cons_zero, List.set_cons_succ, List.getElem?_cons_zero, List.getElem?_cons_succ]
  refine ⟨?_, ?_⟩
  · as_aux_lemma =>
    intro y_ hS_ hO_ hD
    have hS := hS_ (by rfl)
    have n_ : IsN y_ (ρ 3) (P) := hD 3 (by decide) (by rfl)
    clear hS hS_ hO_ hD
    exact s_num (by rfl) (by rfl) (by rfl) n_
  simp only [Act.put, planVG, List.setIfInBounds_toArray, List.set_cons_zero, List.set_cons_succ, List.getElem?_cons_zero, List.getElem?_cons_succ]
  refine ⟨?_, ?_⟩
  · as_aux_lemma =>
    intro y_ hS_ hO_ hD
    have hS := hS_ (by rfl)
    have n_ : IsN y_ (ρ 7) (Q) := hD 7 (by decide) (by rfl)
    clear hS hS_ hO_ hD
    exact s_num (by rfl) (by rfl) (by rfl) n_
  simp only [Act.put, planVG, List.setIfInBounds_toArray, List.set_cons_zero, List.set_cons_succ, List.getElem?_cons_zero, List.getElem?_cons_succ]
  as_aux_lemma =>
    intro w2 hS hF hD_
    change wpList _ _ _ _ _ _
    replace hS := sg_no (by decide) hS
    obtain ⟨hk, hZ2, X1, X2, X3⟩ := hS
    have M3 : IsN w2 (ρ 3) (P) := hF 3 (by decide)
    have M7 : IsN w2 (ρ 7) (Q) := hF 7 (by decide)
    have M8 : IsN w2 (ρ 8) (P) := hF 8 (by decide)
    have M9 : IsN w2 (ρ 9) (Q) := hF 9 (by decide)
    clear hF hD_
    generalize ρ 3 = u2_3 at *
    generalize ρ 7 = u2_7 at *
    generalize ρ 8 = u2_8 at *
    generalize ρ 9 = u2_9 at *
    clear ρ
    have hz_w2 := hk.size
    have X1l := X1.lt
    have X1f := X1.free
    have X1l1 : w.heap.size < w2.heap.size + 1 := by omega
    have X1l2 : w.heap.size < w2.heap.size + 1 + 1 := by omega
    have X1l3 : w.heap.size < w2.heap.size + 1 + 1 + 1 := by omega
    have X10 := X1.cell 0 _ rfl
    have X11 := X1.cell 1 _ rfl
    have X12 := X1.cell 2 _ rfl
    have X13 := X1.cell 3 _ rfl
    have X2l := X2.lt
    have X2f := X2.free
    have X2l1 : w.heap.size + 1 < w2.heap.size + 1 := by omega
    have X2l2 : w.heap.size + 1 < w2.heap.size + 1 + 1 := by omega
    have X2l3 : w.heap.size + 1 < w2.heap.size + 1 + 1 + 1 := by omega
    have X20 := X2.cell 0 _ rfl
    have X21 := X2.cell 1 _ rfl
    have X22 := X2.cell 2 _ rfl
    have X23 := X2.cell 3 _ rfl
    have X3l := X3.lt
    have X3f := X3.free
    have X3l1 : w.heap.size + 1 + 1 < w2.heap.size + 1 := by omega
    have X3l2 : w.heap.size + 1 + 1 < w2.heap.size + 1 + 1 := by omega
    have X3l3 : w.heap.size + 1 + 1 < w2.heap.size + 1 + 1 + 1 := by omega
    have X30 := X3.cell 0 _ rfl
    have X31 := X3.cell 1 _ rfl
    have X32 := X3.cell 2 _ rfl
    have X33 := X3.cell 3 _ rfl
    clear M3
    clear M7
    have N3 := M8
    clear M8
    have N4 := M9
    clear M9
    go_wp2_with fail
    (with_reducible refine (calls_to (V := .int .i64 (c)) (ref17Cmp_any hA hB _) (by rw [HC.out])).mono ?_)
    rintro e w3 ⟨rfl, hb⟩
    have X3' : Box w3 (w.heap.size + 1 + 1) #[.int .u64 0, .int .u64 0, .int .u64 0, .int .u64 0] := Box.call hb (by repeat (first | with_reducible assumption | with_reducible apply Box.set10 | with_reducible apply Box.set20 | with_reducible apply Box.set21 | with_reducible apply Box.set40 | with_reducible apply Box.set41 | with_reducible apply Box.set42 | with_reducible apply Box.set43 | with_reducible apply Box.set50 | with_reducible apply Box.set51 | with_reducible apply Box.set52 | with_reducible apply Box.set53 | with_reducible apply Box.set54 | with_reducible apply Box.drew | (with_reducible apply Box.newAt; (try simp only [World.size_alloc, World.size_setCell, World.size_drew]); done) | with_reducible apply Box.alloc | (with_reducible apply Box.other; case hne => ((try simp only [World.size_alloc, World.size_setCell, World.size_drew]); omega))))
    have N3' : IsN w3 u2_8 (P) := (IsN.kept N3 (by repeat (first | with_reducible exact Kept.refl _ | with_reducible refine Kept.alloc ?_ _ | with_reducible refine Kept.drew ?_ | with_reducible refine Kept.setCell ?_ (by simp only [World.size_alloc, World.size_setCell, World.size_drew]; omega) _))).call hb
    have N4' : IsN w3 u2_9 (Q) := (IsN.kept N4 (by repeat (first | with_reducible exact Kept.refl _ | with_reducible refine Kept.alloc ?_ _ | with_reducible refine Kept.drew ?_ | with_reducible refine Kept.setCell ?_ (by simp only [World.size_alloc, World.size_setCell, World.size_drew]; omega) _))).call hb
    have hk' : Kept w.heap.size w w3 := Kept.step (by repeat (first | with_reducible exact hk | with_reducible exact Kept.refl _ | with_reducible refine Kept.alloc ?_ _ | with_reducible refine Kept.drew ?_ | with_reducible refine Kept.setCell ?_ (by simp only [World.size_alloc, World.size_setCell, World.size_drew]; omega) _)) hb
    clear hk hb
    clear X1 X1l1 X1l2 X1l3 X1f X10 X11 X12 X13
    clear X2 X2l1 X2l2 X2l3 X2f X20 X21 X22 X23
    clear X3 X3l1 X3l2 X3l3 X3f X30 X31 X32 X33
    have X3 := X3'
    clear X3'
    clear N3
    have N3 := N3'
    clear N3'
    clear N4
    have N4 := N4'
    clear N4'
    have hk := hk'
    clear hk'
    have hz_w3 := hk.size
    have X3l := X3.lt
    have X3f := X3.free
    have X3l1 : w.heap.size + 1 + 1 < w3.heap.size + 1 := by omega
    have X3l2 : w.heap.size + 1 + 1 < w3.heap.size + 1 + 1 := by omega
    have X3l3 : w.heap.size + 1 + 1 < w3.heap.size + 1 + 1 + 1 := by omega
    have X30 := X3.cell 0 _ rfl
    have X31 := X3.cell 1 _ rfl
    have X32 := X3.cell 2 _ rfl
    have X33 := X3.cell 3 _ rfl
    go_wp2_with fail
    (with_reducible refine (refCmp_any _ (IsN.kept N3 (by repeat (first | with_reducible exact Kept.refl _ | with_reducible refine Kept.alloc ?_ _ | with_reducible refine Kept.drew ?_ | with_reducible refine Kept.setCell ?_ (by simp only [World.size_alloc, World.size_setCell, World.size_drew]; omega) _))) (IsN.kept N4 (by repeat (first | with_reducible exact Kept.refl _ | with_reducible refine Kept.alloc ?_ _ | with_reducible refine Kept.drew ?_ | with_reducible refine Kept.setCell ?_ (by simp only [World.size_alloc, World.size_setCell, World.size_drew]; omega) _))) (by omega) (by omega)).mono ?_)
    rintro e w4 ⟨rfl, hb⟩
    have X3' : Box w4 (w.heap.size + 1 + 1) #[.int .u64 0, .int .u64 0, .int .u64 0, .int .u64 0] := Box.call hb (by repeat (first | with_reducible assumption | with_reducible apply Box.set10 | with_reducible apply Box.set20 | with_reducible apply Box.set21 | with_reducible apply Box.set40 | with_reducible apply Box.set41 | with_reducible apply Box.set42 | with_reducible apply Box.set43 | with_reducible apply Box.set50 | with_reducible apply Box.set51 | with_reducible apply Box.set52 | with_reducible apply Box.set53 | with_reducible apply Box.set54 | with_reducible apply Box.drew | (with_reducible apply Box.newAt; (try simp only [World.size_alloc, World.size_setCell, World.size_drew]); done) | with_reducible apply Box.alloc | (with_reducible apply Box.other; case hne => ((try simp only [World.size_alloc, World.size_setCell, World.size_drew]); omega))))
    have N3' : IsN w4 u2_8 (P) := (IsN.kept N3 (by repeat (first | with_reducible exact Kept.refl _ | with_reducible refine Kept.alloc ?_ _ | with_reducible refine Kept.drew ?_ | with_reducible refine Kept.setCell ?_ (by simp only [World.size_alloc, World.size_setCell, World.size_drew]; omega) _))).call hb
    have N4' : IsN w4 u2_9 (Q) := (IsN.kept N4 (by repeat (first | with_reducible exact Kept.refl _ | with_reducible refine Kept.alloc ?_ _ | with_reducible refine Kept.drew ?_ | with_reducible refine Kept.setCell ?_ (by simp only [World.size_alloc, World.size_setCell, World.size_drew]; omega) _))).call hb
    have hk' : Kept w.heap.size w w4 := Kept.step (by repeat (first | with_reducible exact hk | with_reducible exact Kept.refl _ | with_reducible refine Kept.alloc ?_ _ | with_reducible refine Kept.drew ?_ | with_reducible refine Kept.setCell ?_ (by simp only [World.size_alloc, World.size_setCell, World.size_drew]; omega) _)) hb
    clear hk hb
    clear X3 X3l1 X3l2 X3l3 X3f X30 X31 X32 X33
    have X3 := X3'
    clear X3'
    clear N3
    have N3 := N3'
    clear N3'
    clear N4
    have N4 := N4'
    clear N4'
    have hk := hk'
    clear hk'
    have hz_w4 := hk.size
    have X3l := X3.lt
    have X3f := X3.free
    have X3l1 : w.heap.size + 1 + 1 < w4.heap.size + 1 := by omega
    have X3l2 : w.heap.size + 1 + 1 < w4.heap.size + 1 + 1 := by omega
    have X3l3 : w.heap.size + 1 + 1 < w4.heap.size + 1 + 1 + 1 := by omega
    have X30 := X3.cell 0 _ rfl
    have X31 := X3.cell 1 _ rfl
    have X32 := X3.cell 2 _ rfl
    have X33 := X3.cell 3 _ rfl
    go_wp2_with fail
    (with_reducible refine (refFullF HF.out (by omega) (by omega) _).mono ?_)
    rintro e w5 ⟨vN5, rfl, N5_, hb⟩
    have X3' : Box w5 (w.heap.size + 1 + 1) #[.int .u64 0, .int .u64 0, .int .u64 0, .int .u64 0] := Box.call hb (by repeat (first | with_reducible assumption | with_reducible apply Box.set10 | with_reducible apply Box.set20 | with_reducible apply Box.set21 | with_reducible apply Box.set40 | with_reducible apply Box.set41 | with_reducible apply Box.set42 | with_reducible apply Box.set43 | with_reducible apply Box.set50 | with_reducible apply Box.set51 | with_reducible apply Box.set52 | with_reducible apply Box.set53 | with_reducible apply Box.set54 | with_reducible apply Box.drew | (with_reducible apply Box.newAt; (try simp only [World.size_alloc, World.size_setCell, World.size_drew]); done) | with_reducible apply Box.alloc | (with_reducible apply Box.other; case hne => ((try simp only [World.size_alloc, World.size_setCell, World.size_drew]); omega))))
    have N3' : IsN w5 u2_8 (P) := (IsN.kept N3 (by repeat (first | with_reducible exact Kept.refl _ | with_reducible refine Kept.alloc ?_ _ | with_reducible refine Kept.drew ?_ | with_reducible refine Kept.setCell ?_ (by simp only [World.size_alloc, World.size_setCell, World.size_drew]; omega) _))).call hb
    have N4' : IsN w5 u2_9 (Q) := (IsN.kept N4 (by repeat (first | with_reducible exact Kept.refl _ | with_reducible refine Kept.alloc ?_ _ | with_reducible refine Kept.drew ?_ | with_reducible refine Kept.setCell ?_ (by simp only [World.size_alloc, World.size_setCell, World.size_drew]; omega) _))).call hb
    have hk' : Kept w.heap.size w w5 := Kept.step (by repeat (first | with_reducible exact hk | with_reducible exact Kept.refl _ | with_reducible refine Kept.alloc ?_ _ | with_reducible refine Kept.drew ?_ | with_reducible refine Kept.setCell ?_ (by simp only [World.size_alloc, World.size_setCell, World.size_drew]; omega) _)) hb
    clear hk hb
    clear X3 X3l1 X3l2 X3l3 X3f X30 X31 X32 X33
    have X3 := X3'
    clear X3'
    clear N3
    have N3 := N3'
    clear N3'
    clear N4
    have N4 := N4'
    clear N4'
    have hk := hk'
    clear hk'
    have hz_w5 := hk.size
    have X3l := X3.lt
    have X3f := X3.free
    have X3l1 : w.heap.size + 1 + 1 < w5.heap.size + 1 := by omega
    have X3l2 : w.heap.size + 1 + 1 < w5.heap.size + 1 + 1 := by omega
    have X3l3 : w.heap.size + 1 + 1 < w5.heap.size + 1 + 1 + 1 := by omega
    have X30 := X3.cell 0 _ rfl
    have X31 := X3.cell 1 _ rfl
    have X32 := X3.cell 2 _ rfl
    have X33 := X3.cell 3 _ rfl
    have N5 : IsN w5 vN5 (Z) := N5_
    clear N5_
    go_wp2_with fail
    (with_reducible refine (refAdd_any _ (IsN.kept N3 (by repeat (first | with_reducible exact Kept.refl _ | with_reducible refine Kept.alloc ?_ _ | with_reducible refine Kept.drew ?_ | with_reducible refine Kept.setCell ?_ (by simp only [World.size_alloc, World.size_setCell, World.size_drew]; omega) _))) (IsN.kept N5 (by repeat (first | with_reducible exact Kept.refl _ | with_reducible refine Kept.alloc ?_ _ | with_reducible refine Kept.drew ?_ | with_reducible refine Kept.setCell ?_ (by simp only [World.size_alloc, World.size_setCell, World.size_drew]; omega) _))) (by omega) (by omega)).mono ?_)
    rintro e w6 ⟨vN6, rfl, N6_, hb⟩
    have X3' : Box w6 (w.heap.size + 1 + 1) #[.int .u64 0, .int .u64 0, .int .u64 0, .int .u64 0] := Box.call hb (by repeat (first | with_reducible assumption | with_reducible apply Box.set10 | with_reducible apply Box.set20 | with_reducible apply Box.set21 | with_reducible apply Box.set40 | with_reducible apply Box.set41 | with_reducible apply Box.set42 | with_reducible apply Box.set43 | with_reducible apply Box.set50 | with_reducible apply Box.set51 | with_reducible apply Box.set52 | with_reducible apply Box.set53 | with_reducible apply Box.set54 | with_reducible apply Box.drew | (with_reducible apply Box.newAt; (try simp only [World.size_alloc, World.size_setCell, World.size_drew]); done) | with_reducible apply Box.alloc | (with_reducible apply Box.other; case hne => ((try simp only [World.size_alloc, World.size_setCell, World.size_drew]); omega))))
    have N3' : IsN w6 u2_8 (P) := (IsN.kept N3 (by repeat (first | with_reducible exact Kept.refl _ | with_reducible refine Kept.alloc ?_ _ | with_reducible refine Kept.drew ?_ | with_reducible refine Kept.setCell ?_ (by simp only [World.size_alloc, World.size_setCell, World.size_drew]; omega) _))).call hb
    have N4' : IsN w6 u2_9 (Q) := (IsN.kept N4 (by repeat (first | with_reducible exact Kept.refl _ | with_reducible refine Kept.alloc ?_ _ | with_reducible refine Kept.drew ?_ | with_reducible refine Kept.setCell ?_ (by simp only [World.size_alloc, World.size_setCell, World.size_drew]; omega) _))).call hb
    have N5' : IsN w6 vN5 (Z) := (IsN.kept N5 (by repeat (first | with_reducible exact Kept.refl _ | with_reducible refine Kept.alloc ?_ _ | with_reducible refine Kept.drew ?_ | with_reducible refine Kept.setCell ?_ (by simp only [World.size_alloc, World.size_setCell, World.size_drew]; omega) _))).call hb
    have hk' : Kept w.heap.size w w6 := Kept.step (by repeat (first | with_reducible exact hk | with_reducible exact Kept.refl _ | with_reducible refine Kept.alloc ?_ _ | with_reducible refine Kept.drew ?_ | with_reducible refine Kept.setCell ?_ (by simp only [World.size_alloc, World.size_setCell, World.size_drew]; omega) _)) hb
    clear hk hb
    clear X3 X3l1 X3l2 X3l3 X3f X30 X31 X32 X33
    have X3 := X3'
    clear X3'
    clear N3
    have N3 := N3'
    clear N3'
    clear N4
    have N4 := N4'
    clear N4'
    clear N5
    have N5 := N5'
    clear N5'
    have hk := hk'
    clear hk'
    have hz_w6 := hk.size
    have X3l := X3.lt
    have X3f := X3.free
    have X3l1 : w.heap.size + 1 + 1 < w6.heap.size + 1 := by omega
    have X3l2 : w.heap.size + 1 + 1 < w6.heap.size + 1 + 1 := by omega
    have X3l3 : w.heap.size + 1 + 1 < w6.heap.size + 1 + 1 + 1 := by omega
    have X30 := X3.cell 0 _ rfl
    have X31 := X3.cell 1 _ rfl
    have X32 := X3.cell 2 _ rfl
    have X33 := X3.cell 3 _ rfl
    have N6 : IsN w6 vN6 (P + Z) := N6_
    clear N6_
    clear N3
    clear N5
    go_wp2_with fail
    (with_reducible refine (refSub_any _ (IsN.kept N6 (by repeat (first | with_reducible exact Kept.refl _ | with_reducible refine Kept.alloc ?_ _ | with_reducible refine Kept.drew ?_ | with_reducible refine Kept.setCell ?_ (by simp only [World.size_alloc, World.size_setCell, World.size_drew]; omega) _))) (IsN.kept N4 (by repeat (first | with_reducible exact Kept.refl _ | with_reducible refine Kept.alloc ?_ _ | with_reducible refine Kept.drew ?_ | with_reducible refine Kept.setCell ?_ (by simp only [World.size_alloc, World.size_setCell, World.size_drew]; omega) _))) (by omega) (by omega) HLE.out).mono ?_)
    rintro e w7 ⟨vN7, rfl, N7_, hb⟩
    have X3' : Box w7 (w.heap.size + 1 + 1) #[.int .u64 0, .int .u64 0, .int .u64 0, .int .u64 0] := Box.call hb (by repeat (first | with_reducible assumption | with_reducible apply Box.set10 | with_reducible apply Box.set20 | with_reducible apply Box.set21 | with_reducible apply Box.set40 | with_reducible apply Box.set41 | with_reducible apply Box.set42 | with_reducible apply Box.set43 | with_reducible apply Box.set50 | with_reducible apply Box.set51 | with_reducible apply Box.set52 | with_reducible apply Box.set53 | with_reducible apply Box.set54 | with_reducible apply Box.drew | (with_reducible apply Box.newAt; (try simp only [World.size_alloc, World.size_setCell, World.size_drew]); done) | with_reducible apply Box.alloc | (with_reducible apply Box.other; case hne => ((try simp only [World.size_alloc, World.size_setCell, World.size_drew]); omega))))
    have N4' : IsN w7 u2_9 (Q) := (IsN.kept N4 (by repeat (first | with_reducible exact Kept.refl _ | with_reducible refine Kept.alloc ?_ _ | with_reducible refine Kept.drew ?_ | with_reducible refine Kept.setCell ?_ (by simp only [World.size_alloc, World.size_setCell, World.size_drew]; omega) _))).call hb
    have N6' : IsN w7 vN6 (P + Z) := (IsN.kept N6 (by repeat (first | with_reducible exact Kept.refl _ | with_reducible refine Kept.alloc ?_ _ | with_reducible refine Kept.drew ?_ | with_reducible refine Kept.setCell ?_ (by simp only [World.size_alloc, World.size_setCell, World.size_drew]; omega) _))).call hb
    have hk' : Kept w.heap.size w w7 := Kept.step (by repeat (first | with_reducible exact hk | with_reducible exact Kept.refl _ | with_reducible refine Kept.alloc ?_ _ | with_reducible refine Kept.drew ?_ | with_reducible refine Kept.setCell ?_ (by simp only [World.size_alloc, World.size_setCell, World.size_drew]; omega) _)) hb
    clear hk hb
    clear X3 X3l1 X3l2 X3l3 X3f X30 X31 X32 X33
    have X3 := X3'
    clear X3'
    clear N4
    have N4 := N4'
    clear N4'
    clear N6
    have N6 := N6'
    clear N6'
    have hk := hk'
    clear hk'
    have hz_w7 := hk.size
    have X3l := X3.lt
    have X3f := X3.free
    have X3l1 : w.heap.size + 1 + 1 < w7.heap.size + 1 := by omega
    have X3l2 : w.heap.size + 1 + 1 < w7.heap.size + 1 + 1 := by omega
    have X3l3 : w.heap.size + 1 + 1 < w7.heap.size + 1 + 1 + 1 := by omega
    have X30 := X3.cell 0 _ rfl
    have X31 := X3.cell 1 _ rfl
    have X32 := X3.cell 2 _ rfl
    have X33 := X3.cell 3 _ rfl
    have N7 : IsN w7 vN7 ((P + Z) - Q) := N7_
    clear N7_
    clear N4
    clear N6
    go_wp2_with fail
    (with_reducible refine (Low_eq HW.out _ (IsN.kept N7 (by repeat (first | with_reducible exact Kept.refl _ | with_reducible refine Kept.alloc ?_ _ | with_reducible refine Kept.drew ?_ | with_reducible refine Kept.setCell ?_ (by simp only [World.size_alloc, World.size_setCell, World.size_drew]; omega) _))) (by omega)).mono ?_)
    rintro e w8 ⟨rfl, hb⟩
    have X3' : Box w8 (w.heap.size + 1 + 1) #[.int .u64 0, .int .u64 0, .int .u64 0, .int .u64 0] := Box.call hb (by repeat (first | with_reducible assumption | with_reducible apply Box.set10 | with_reducible apply Box.set20 | with_reducible apply Box.set21 | with_reducible apply Box.set40 | with_reducible apply Box.set41 | with_reducible apply Box.set42 | with_reducible apply Box.set43 | with_reducible apply Box.set50 | with_reducible apply Box.set51 | with_reducible apply Box.set52 | with_reducible apply Box.set53 | with_reducible apply Box.set54 | with_reducible apply Box.drew | (with_reducible apply Box.newAt; (try simp only [World.size_alloc, World.size_setCell, World.size_drew]); done) | with_reducible apply Box.alloc | (with_reducible apply Box.other; case hne => ((try simp only [World.size_alloc, World.size_setCell, World.size_drew]); omega))))
    have N7' : IsN w8 vN7 ((P + Z) - Q) := (IsN.kept N7 (by repeat (first | with_reducible exact Kept.refl _ | with_reducible refine Kept.alloc ?_ _ | with_reducible refine Kept.drew ?_ | with_reducible refine Kept.setCell ?_ (by simp only [World.size_alloc, World.size_setCell, World.size_drew]; omega) _))).call hb
    have hk' : Kept w.heap.size w w8 := Kept.step (by repeat (first | with_reducible exact hk | with_reducible exact Kept.refl _ | with_reducible refine Kept.alloc ?_ _ | with_reducible refine Kept.drew ?_ | with_reducible refine Kept.setCell ?_ (by simp only [World.size_alloc, World.size_setCell, World.size_drew]; omega) _)) hb
    clear hk hb
    clear X3 X3l1 X3l2 X3l3 X3f X30 X31 X32 X33
    have X3 := X3'
    clear X3'
    clear N7
    have N7 := N7'
    clear N7'
    have hk := hk'
    clear hk'
    have hz_w8 := hk.size
    have X3l := X3.lt
    have X3f := X3.free
    have X3l1 : w.heap.size + 1 + 1 < w8.heap.size + 1 := by omega
    have X3l2 : w.heap.size + 1 + 1 < w8.heap.size + 1 + 1 := by omega
    have X3l3 : w.heap.size + 1 + 1 < w8.heap.size + 1 + 1 + 1 := by omega
    have X30 := X3.cell 0 _ rfl
    have X31 := X3.cell 1 _ rfl
    have X32 := X3.cell 2 _ rfl
    have X33 := X3.cell 3 _ rfl
    go_wp2
    refine bodyPost_ret (v := .tuple #[.int .i64 L, wideV (sub256 P Q), .bool false]) (by simp [results, Try.results53, go_sem, X30, X31, X32, X33, hc]) rfl ⟨rfl, ?_⟩
    refine Kept.below ?_; repeat (first | with_reducible exact hk | with_reducible exact Kept.refl _ | with_reducible refine Kept.alloc ?_ _ | with_reducible refine Kept.drew ?_ | with_reducible refine Kept.setCell ?_ (by simp only [World.size_alloc, World.size_setCell, World.size_drew]; omega) _)

set_option maxRecDepth 100000 in
set_option maxHeartbeats 8000000 in
theorem ref17Diff_10 {x y L c : Int} {A B P Q : Nat} (hA : W256 A) (hB : W256 B) (hP : W256 P) (hQ : W256 Q) (l0 : -1099511627776 ≤ L) (l1 : L ≤ 1099511627776) (e0 : levelI (expI x) A (expI y) B = L) (e1 : sideI (expI x) A (L) = P) (e2 : sideI (expI y) B (L) = Q) (e3 : cmpT (expI x) A (expI y) B = c) (hc : c < 0) (hl : P ≤ Q) (w : World) :
    Calls Try.prog 53 #[.int .i64 x, wideV A, .int .i64 y, wideV B] w fun e w' => e = .returned (.tuple #[.int .i64 L, wideV (sub256 Q P), .bool true]) ∧ Below w.heap.size w w' := by
  have hk := Kept.refl w
  obtain ⟨Z, hZ⟩ : ∃ Z : Nat, 2 ^ 256 = Z := ⟨_, rfl⟩
  have HL := Lib.hid e0; have E1 := Lib.hid e1; have E2 := Lib.hid e2
  have w1_ : IntKind.i64.wrap (L + 1) = L + 1 := IntWalk.i64_in _ (by omega)
  have hP2 := hP.lt; have hQ2 := hQ.lt
  have lP := len256 hP
  have lQ := len256 hQ
  have HC := Lib.hid e3
  have HW := Lib.hid (show wideV (Q - P) = wideV (sub256 Q P) from wide_mod (by unfold sub256; omega))
  have HLE := Lib.hid (show P ≤ Q by omega)
  have c1 : ¬ cmpN Q P < 0 := by rw [cmp_neg]; omega
  have lenZ : lenN Z ≤ 9 := lenN_le 9 Z (by omega)
  have ln : lenN Q ≤ 9 := lenN_le 9 _ (by omega)
  have ld : lenN (Q - P) ≤ 9 := lenN_le 9 _ (by omega)
  have HF := Lib.hid hZ
  clear e0 e1 e2 e3 hZ hl hP2 hQ2
  go_enter Try.func53, Try.ntmps53
  go_wp2_with fail
  (with_reducible refine (calls_to (V := .int .i64 (L)) (refLevel_any hA hB _) (by rw [HL.out])).mono ?_)
  rintro e w1 ⟨rfl, hb⟩
  have X1' : Box w1 (w.heap.size) #[.int .u64 (limb 0 A), .int .u64 (limb 1 A), .int .u64 (limb 2 A), .int .u64 (limb 3 A)] := Box.call hb (by repeat (first | with_reducible assumption | with_reducible apply Box.set10 | with_reducible apply Box.set20 | with_reducible apply Box.set21 | with_reducible apply Box.set40 | with_reducible apply Box.set41 | with_reducible apply Box.set42 | with_reducible apply Box.set43 | with_reducible apply Box.set50 | with_reducible apply Box.set51 | with_reducible apply Box.set52 | with_reducible apply Box.set53 | with_reducible apply Box.set54 | with_reducible apply Box.drew | (with_reducible apply Box.newAt; (try simp only [World.size_alloc, World.size_setCell, World.size_drew]); done) | with_reducible apply Box.alloc | (with_reducible apply Box.other; case hne => ((try simp only [World.size_alloc, World.size_setCell, World.size_drew]); omega))))
  have X2' : Box w1 (w.heap.size + 1) #[.int .u64 (limb 0 B), .int .u64 (limb 1 B), .int .u64 (limb 2 B), .int .u64 (limb 3 B)] := Box.call hb (by repeat (first | with_reducible assumption | with_reducible apply Box.set10 | with_reducible apply Box.set20 | with_reducible apply Box.set21 | with_reducible apply Box.set40 | with_reducible apply Box.set41 | with_reducible apply Box.set42 | with_reducible apply Box.set43 | with_reducible apply Box.set50 | with_reducible apply Box.set51 | with_reducible apply Box.set52 | with_reducible apply Box.set53 | with_reducible apply Box.set54 | with_reducible apply Box.drew | (with_reducible apply Box.newAt; (try simp only [World.size_alloc, World.size_setCell, World.size_drew]); done) | with_reducible apply Box.alloc | (with_reducible apply Box.other; case hne => ((try simp only [World.size_alloc, World.size_setCell, World.size_drew]); omega))))
  have X3' : Box w1 (w.heap.size + 1 + 1) #[.int .u64 0, .int .u64 0, .int .u64 0, .int .u64 0] := Box.call hb (by repeat (first | with_reducible assumption | with_reducible apply Box.set10 | with_reducible apply Box.set20 | with_reducible apply Box.set21 | with_reducible apply Box.set40 | with_reducible apply Box.set41 | with_reducible apply Box.set42 | with_reducible apply Box.set43 | with_reducible apply Box.set50 | with_reducible apply Box.set51 | with_reducible apply Box.set52 | with_reducible apply Box.set53 | with_reducible apply Box.set54 | with_reducible apply Box.drew | (with_reducible apply Box.newAt; (try simp only [World.size_alloc, World.size_setCell, World.size_drew]); done) | with_reducible apply Box.alloc | (with_reducible apply Box.other; case hne => ((try simp only [World.size_alloc, World.size_setCell, World.size_drew]); omega))))
  have hk' : Kept w.heap.size w w1 := Kept.step (by repeat (first | with_reducible exact hk | with_reducible exact Kept.refl _ | with_reducible refine Kept.alloc ?_ _ | with_reducible refine Kept.drew ?_ | with_reducible refine Kept.setCell ?_ (by simp only [World.size_alloc, World.size_setCell, World.size_drew]; omega) _)) hb
  clear hk hb
  have X1 := X1'
  clear X1'
  have X2 := X2'
  clear X2'
  have X3 := X3'
  clear X3'
  have hk := hk'
  clear hk'
  have hz_w1 := hk.size
  have X1l := X1.lt
  have X1f := X1.free
  have X1l1 : w.heap.size < w1.heap.size + 1 := by omega
  have X1l2 : w.heap.size < w1.heap.size + 1 + 1 := by omega
  have X1l3 : w.heap.size < w1.heap.size + 1 + 1 + 1 := by omega
  have X10 := X1.cell 0 _ rfl
  have X11 := X1.cell 1 _ rfl
  have X12 := X1.cell 2 _ rfl
  have X13 := X1.cell 3 _ rfl
  have X2l := X2.lt
  have X2f := X2.free
  have X2l1 : w.heap.size + 1 < w1.heap.size + 1 := by omega
  have X2l2 : w.heap.size + 1 < w1.heap.size + 1 + 1 := by omega
  have X2l3 : w.heap.size + 1 < w1.heap.size + 1 + 1 + 1 := by omega
  have X20 := X2.cell 0 _ rfl
  have X21 := X2.cell 1 _ rfl
  have X22 := X2.cell 2 _ rfl
  have X23 := X2.cell 3 _ rfl
  have X3l := X3.lt
  have X3f := X3.free
  have X3l1 : w.heap.size + 1 + 1 < w1.heap.size + 1 := by omega
  have X3l2 : w.heap.size + 1 + 1 < w1.heap.size + 1 + 1 := by omega
  have X3l3 : w.heap.size + 1 + 1 < w1.heap.size + 1 + 1 + 1 := by omega
  have X30 := X3.cell 0 _ rfl
  have X31 := X3.cell 1 _ rfl
  have X32 := X3.cell 2 _ rfl
  have X33 := X3.cell 3 _ rfl
  go_wp2
  refine wp_region_g 10 (fun W' => Kept w.heap.size w W' ∧ w1.heap.size ≤ W'.heap.size ∧ Box W' (w.heap.size) #[.int .u64 (limb 0 A), .int .u64 (limb 1 A), .int .u64 (limb 2 A), .int .u64 (limb 3 A)] ∧ Box W' (w.heap.size + 1) #[.int .u64 (limb 0 B), .int .u64 (limb 1 B), .int .u64 (limb 2 B), .int .u64 (limb 3 B)] ∧ Box W' (w.heap.size + 1 + 1) #[.int .u64 0, .int .u64 0, .int .u64 0, .int .u64 0]) (fun W' => Kept w.heap.size w W' ∧ w1.heap.size ≤ W'.heap.size ∧ Box W' (w.heap.size) #[.int .u64 (limb 0 A), .int .u64 (limb 1 A), .int .u64 (limb 2 A), .int .u64 (limb 3 A)] ∧ Box W' (w.heap.size + 1) #[.int .u64 (limb 0 B), .int .u64 (limb 1 B), .int .u64 (limb 2 B), .int .u64 (limb 3 B)] ∧ Box W' (w.heap.size + 1 + 1) #[.int .u64 0, .int .u64 0, .int .u64 0, .int .u64 0]) 1000 (w1.heap.size) [.known (.int .i64 (x)), .known (wideV A), .known (.int .i64 (L)), .num (P), .known (.int .i64 (y)), .known (wideV B), .known (.int .i64 (L)), .num (Q), .num (P), .num (Q)] (by kernel_rfl) (by kernel_rfl) (fun W W' h hb => ⟨h.1.step hb, Nat.le_trans (h.2.1) hb.size, Box.call hb (h.2.2.1), Box.call hb (h.2.2.2.1), Box.call hb (h.2.2.2.2)⟩) (fun W W' h hb => ⟨h.1.step hb, Nat.le_trans (h.2.1) hb.size, Box.call hb (h.2.2.1), Box.call hb (h.2.2.2.1), Box.call hb (h.2.2.2.2)⟩) (no_out (of_decide_eq_true (by kernel_rfl))) (.inl (by kernel_rfl)) (.inl (by kernel_rfl)) (fun _ h => h.2.1) (fun _ h => h.2.1) (⟨(by repeat (first | with_reducible exact hk | with_reducible exact Kept.refl _ | with_reducible refine Kept.alloc ?_ _ | with_reducible refine Kept.drew ?_ | with_reducible refine Kept.setCell ?_ (by simp only [World.size_alloc, World.size_setCell, World.size_drew]; omega) _)), (by (try simp only [World.size_alloc, World.size_setCell, World.size_drew]); omega), (by repeat (first | with_reducible assumption | with_reducible apply Box.set10 | with_reducible apply Box.set20 | with_reducible apply Box.set21 | with_reducible apply Box.set40 | with_reducible apply Box.set41 | with_reducible apply Box.set42 | with_reducible apply Box.set43 | with_reducible apply Box.set50 | with_reducible apply Box.set51 | with_reducible apply Box.set52 | with_reducible apply Box.set53 | with_reducible apply Box.set54 | with_reducible apply Box.drew | (with_reducible apply Box.newAt; (try simp only [World.size_alloc, World.size_setCell, World.size_drew]); done) | with_reducible apply Box.alloc | (with_reducible apply Box.other; case hne => ((try simp only [World.size_alloc, World.size_setCell, World.size_drew]); omega)))), (by repeat (first | with_reducible assumption | with_reducible apply Box.set10 | with_reducible apply Box.set20 | with_reducible apply Box.set21 | with_reducible apply Box.set40 | with_reducible apply Box.set41 | with_reducible apply Box.set42 | with_reducible apply Box.set43 | with_reducible apply Box.set50 | with_reducible apply Box.set51 | with_reducible apply Box.set52 | with_reducible apply Box.set53 | with_reducible apply Box.set54 | with_reducible apply Box.drew | (with_reducible apply Box.newAt; (try simp only [World.size_alloc, World.size_setCell, World.size_drew]); done) | with_reducible apply Box.alloc | (with_reducible apply Box.other; case hne => ((try simp only [World.size_alloc, World.size_setCell, World.size_drew]); omega)))), (by repeat (first | with_reducible assumption | with_reducible apply Box.set10 | with_reducible apply Box.set20 | with_reducible apply Box.set21 | with_reducible apply Box.set40 | with_reducible apply Box.set41 | with_reducible apply Box.set42 | with_reducible apply Box.set43 | with_reducible apply Box.set50 | with_reducible apply Box.set51 | with_reducible apply Box.set52 | with_reducible apply Box.set53 | with_reducible apply Box.set54 | with_reducible apply Box.drew | (with_reducible apply Box.newAt; (try simp only [World.size_alloc, World.size_setCell, World.size_drew]); done) | with_reducible apply Box.alloc | (with_reducible apply Box.other; case hne => ((try simp only [World.size_alloc, World.size_setCell, World.size_drew]); omega))))⟩) ?_
  clear hk
  clear X1 X1l1 X1l2 X1l3 X1f X10 X11 X12 X13
  clear X2 X2l1 X2l2 X2l3 X2f X20 X21 X22 X23
  clear X3 X3l1 X3l2 X3l3 X3f X30 X31 X32 X33
  intro ρ
  simp only [List.take_succ_cons, List.take_zero, List.drop_succ_cons, List.drop_zero]
  refine ⟨?_, ?_⟩
  · as_aux_lemma =>
    intro y_ hS_ hO_ hD
    clear hS_ hO_ hD
    refine s_gen (V := .int .i64 (x)) [.int .i64 (x)] (by kernel_rfl) (by kernel_rfl) (by kernel_rfl) ?_
    intro r_ hr_
    have o0_ : r_ (.tmp 0) = .int .i64 (x) := op_at hr_ 0 (by kernel_rfl) (by kernel_rfl)
    clear hr_
    go_simp; first | done | with_reducible rfl | omega
  simp only [Act.put, planVG, List.setIfInBounds_toArray, List.set_cons_zero, List.set_cons_succ, List.getElem?_cons_zero, List.getElem?_cons_succ]
  refine ⟨?_, ?_⟩
  · as_aux_lemma =>
    intro y_ hS_ hO_ hD
    have Q := ((hS_ (by rfl)).2.2.1).cell
    have q0 := Q 0 _ rfl
    have q1 := Q 1 _ rfl
    have q2 := Q 2 _ rfl
    have q3 := Q 3 _ rfl
    clear Q hS_ hO_ hD
    refine s_gen (V := wideV A) [.pointer (some ⟨w.heap.size, 0, none⟩)] (by kernel_rfl) (by kernel_rfl) (by kernel_rfl) ?_
    intro r_ hr_
    have o0_ : r_ (.tmp 5) = .pointer (some ⟨w.heap.size, 0, none⟩) := op_at hr_ 0 (by kernel_rfl) (by kernel_rfl)
    clear hr_
    go_simp; first | done | with_reducible rfl
  simp only [Act.put, planVG, List.setIfInBounds_toArray, List.set_cons_zero, List.set_cons_succ, List.getElem?_cons_zero, List.getElem?_cons_succ]
  refine ⟨?_, ?_⟩
  · as_aux_lemma =>
    intro y_ hS_ hO_ hD
    clear hS_ hO_ hD
    refine s_gen (V := .int .i64 (L)) [.int .i64 (L)] (by kernel_rfl) (by kernel_rfl) (by kernel_rfl) ?_
    intro r_ hr_
    have o0_ : r_ (.tmp 11) = .int .i64 (L) := op_at hr_ 0 (by kernel_rfl) (by kernel_rfl)
    clear hr_
    go_simp; first | done | with_reducible rfl | omega
  simp only [Act.put, planVG, List.setIfInBounds_toArray, List.set_cons_zero, List.set_cons_succ, List.getElem?_cons_zero, List.getElem?_cons_succ]
  refine ⟨?_, ?_⟩
  · as_aux_lemma =>
    intro y_ hS_ hO_ hD
    try clear hS
    clear hS_ hO_ hD
    refine s_gcallN (A := P) [.func (.func 76) #[] #[], .int .i64 (x), wideV A, .int .i64 (L)] ?_ ?_ (by kernel_rfl) (by kernel_rfl) (by kernel_rfl) ?_ ?_
    rotate_left 2
    · intro r_ hr_
      have o0_ : r_ (.func 76) = .func (.func 76) #[] #[] := op_at hr_ 0 (by kernel_rfl) (by kernel_rfl)
      have o1_ : r_ (.tmp 20) = .int .i64 (x) := op_at hr_ 1 (by kernel_rfl) (by kernel_rfl)
      have o2_ : r_ (.tmp 21) = wideV A := op_at hr_ 2 (by kernel_rfl) (by kernel_rfl)
      have o3_ : r_ (.tmp 22) = .int .i64 (L) := op_at hr_ 3 (by kernel_rfl) (by kernel_rfl)
      clear hr_
      go_simp; first | done | with_reducible rfl | (constructor <;> with_reducible rfl)
    · refine refAt_to hA E1.out (by omega) (by omega) _
  simp only [Act.put, planVG, List.setIfInBounds_toArray, List.set_cons_zero, List.set_cons_succ, List.getElem?_cons_zero, List.getElem?_cons_succ]
  refine ⟨?_, ?_⟩
  · as_aux_lemma =>
    intro y_ hS_ hO_ hD
    clear hS_ hO_ hD
    refine s_gen (V := .int .i64 (y)) [.int .i64 (y)] (by kernel_rfl) (by kernel_rfl) (by kernel_rfl) ?_
    intro r_ hr_
    have o0_ : r_ (.tmp 2) = .int .i64 (y) := op_at hr_ 0 (by kernel_rfl) (by kernel_rfl)
    clear hr_
    go_simp; first | done | with_reducible rfl | omega
  simp only [Act.put, planVG, List.setIfInBounds_toArray, List.set_cons_zero, List.set_cons_succ, List.getElem?_cons_zero, List.getElem?_cons_succ]
  refine ⟨?_, ?_⟩
  · as_aux_lemma =>
    intro y_ hS_ hO_ hD
    have Q := ((hS_ (by rfl)).2.2.2.1).cell
    have q0 := Q 0 _ rfl
    have q1 := Q 1 _ rfl
    have q2 := Q 2 _ rfl
    have q3 := Q 3 _ rfl
    clear Q hS_ hO_ hD
    refine s_gen (V := wideV B) [.pointer (some ⟨w.heap.size + 1, 0, none⟩)] (by kernel_rfl) (by kernel_rfl) (by kernel_rfl) ?_
    intro r_ hr_
    have o0_ : r_ (.tmp 7) = .pointer (some ⟨w.heap.size + 1, 0, none⟩) := op_at hr_ 0 (by kernel_rfl) (by kernel_rfl)
    clear hr_
    go_simp; first | done | with_reducible rfl
  simp only [Act.put, planVG, List.setIfInBounds_toArray, List.set_cons_zero, List.set_cons_succ, List.getElem?_cons_zero, List.getElem?_cons_succ]
  refine ⟨?_, ?_⟩
  · as_aux_lemma =>
    intro y_ hS_ hO_ hD
    clear hS_ hO_ hD
    refine s_gen (V := .int .i64 (L)) [.int .i64 (L)] (by kernel_rfl) (by kernel_rfl) (by kernel_rfl) ?_
    intro r_ hr_
    have o0_ : r_ (.tmp 11) = .int .i64 (L) := op_at hr_ 0 (by kernel_rfl) (by kernel_rfl)
    clear hr_
    go_simp; first | done | with_reducible rfl | omega
  simp only [Act.put, planVG, List.setIfInBounds_toArray, List.set_cons_zero, List.set_cons_succ, List.getElem?_cons_zero, List.getElem?_cons_succ]
  refine ⟨?_, ?_⟩
  · as_aux_lemma =>
    intro y_ hS_ hO_ hD
    try clear hS
    clear hS_ hO_ hD
    refine s_gcallN (A := Q) [.func (.func 76) #[] #[], .int .i64 (y), wideV B, .int .i64 (L)] ?_ ?_ (by kernel_rfl) (by kernel_rfl) (by kernel_rfl) ?_ ?_
    rotate_left 2
    · intro r_ hr_
      have o0_ : r_ (.func 76) = .func (.func 76) #[] #[] := op_at hr_ 0 (by kernel_rfl) (by kernel_rfl)
      have o1_ : r_ (.tmp 24) = .int .i64 (y) := op_at hr_ 1 (by kernel_rfl) (by kernel_rfl)
      have o2_ : r_ (.tmp 25) = wideV B := op_at hr_ 2 (by kernel_rfl) (by kernel_rfl)
      have o3_ : r_ (.tmp 26) = .int .i64 (L) := op_at hr_ 3 (by kernel_rfl) (by kernel_rfl)
      clear hr_
      go_simp; first | done | with_reducible rfl | (constructor <;> with_reducible rfl)
    · refine refAt_to hB E2.out (by omega) (by omega) _
  simp only [Act.put, planVG, List.setIfInBounds_toArray, List.set_cons_zero, List.set_cons_succ, List.getElem?_cons_zero, List.getElem?_cons_succ]
  refine ⟨?_, ?_⟩
  · as_aux_lemma =>
    intro y_ hS_ hO_ hD
    have hS := hS_ (by rfl)
    have n_ : IsN y_ (ρ 3) (P) := hD 3 (by decide) (by rfl)
    clear hS hS_ hO_ hD
    exact s_num (by rfl) (by rfl) (by rfl) n_
  simp only [Act.put, planVG, List.setIfInBounds_toArray, List.set_cons_zero, List.set_cons_succ, List.getElem?_cons_zero, List.getElem?_cons_succ]
  refine ⟨?_, ?_⟩
  · as_aux_lemma =>
    intro y_ hS_ hO_ hD
    have hS := hS_ (by rfl)
    have n_ : IsN y_ (ρ 7) (Q) := hD 7 (by decide) (by rfl)
    clear hS hS_ hO_ hD
    exact s_num (by rfl) (by rfl) (by rfl) n_
  simp only [Act.put, planVG, List.setIfInBounds_toArray, List.set_cons_zero, List.set_cons_succ, List.getElem?_cons_zero, List.getElem?_cons_succ]
  as_aux_lemma =>
    intro w2 hS hF hD_
    change wpList _ _ _ _ _ _
    replace hS := sg_no (by decide) hS
    obtain ⟨hk, hZ2, X1, X2, X3⟩ := hS
    have M3 : IsN w2 (ρ 3) (P) := hF 3 (by decide)
    have M7 : IsN w2 (ρ 7) (Q) := hF 7 (by decide)
    have M8 : IsN w2 (ρ 8) (P) := hF 8 (by decide)
    have M9 : IsN w2 (ρ 9) (Q) := hF 9 (by decide)
    clear hF hD_
    generalize ρ 3 = u2_3 at *
    generalize ρ 7 = u2_7 at *
    generalize ρ 8 = u2_8 at *
    generalize ρ 9 = u2_9 at *
    clear ρ
    have hz_w2 := hk.size
    have X1l := X1.lt
    have X1f := X1.free
    have X1l1 : w.heap.size < w2.heap.size + 1 := by omega
    have X1l2 : w.heap.size < w2.heap.size + 1 + 1 := by omega
    have X1l3 : w.heap.size < w2.heap.size + 1 + 1 + 1 := by omega
    have X10 := X1.cell 0 _ rfl
    have X11 := X1.cell 1 _ rfl
    have X12 := X1.cell 2 _ rfl
    have X13 := X1.cell 3 _ rfl
    have X2l := X2.lt
    have X2f := X2.free
    have X2l1 : w.heap.size + 1 < w2.heap.size + 1 := by omega
    have X2l2 : w.heap.size + 1 < w2.heap.size + 1 + 1 := by omega
    have X2l3 : w.heap.size + 1 < w2.heap.size + 1 + 1 + 1 := by omega
    have X20 := X2.cell 0 _ rfl
    have X21 := X2.cell 1 _ rfl
    have X22 := X2.cell 2 _ rfl
    have X23 := X2.cell 3 _ rfl
    have X3l := X3.lt
    have X3f := X3.free
    have X3l1 : w.heap.size + 1 + 1 < w2.heap.size + 1 := by omega
    have X3l2 : w.heap.size + 1 + 1 < w2.heap.size + 1 + 1 := by omega
    have X3l3 : w.heap.size + 1 + 1 < w2.heap.size + 1 + 1 + 1 := by omega
    have X30 := X3.cell 0 _ rfl
    have X31 := X3.cell 1 _ rfl
    have X32 := X3.cell 2 _ rfl
    have X33 := X3.cell 3 _ rfl
    clear M3
    clear M7
    have N3 := M8
    clear M8
    have N4 := M9
    clear M9
    go_wp2_with fail
    (with_reducible refine (calls_to (V := .int .i64 (c)) (ref17Cmp_any hA hB _) (by rw [HC.out])).mono ?_)
    rintro e w3 ⟨rfl, hb⟩
    have X3' : Box w3 (w.heap.size + 1 + 1) #[.int .u64 0, .int .u64 0, .int .u64 0, .int .u64 0] := Box.call hb (by repeat (first | with_reducible assumption | with_reducible apply Box.set10 | with_reducible apply Box.set20 | with_reducible apply Box.set21 | with_reducible apply Box.set40 | with_reducible apply Box.set41 | with_reducible apply Box.set42 | with_reducible apply Box.set43 | with_reducible apply Box.set50 | with_reducible apply Box.set51 | with_reducible apply Box.set52 | with_reducible apply Box.set53 | with_reducible apply Box.set54 | with_reducible apply Box.drew | (with_reducible apply Box.newAt; (try simp only [World.size_alloc, World.size_setCell, World.size_drew]); done) | with_reducible apply Box.alloc | (with_reducible apply Box.other; case hne => ((try simp only [World.size_alloc, World.size_setCell, World.size_drew]); omega))))
    have N3' : IsN w3 u2_8 (P) := (IsN.kept N3 (by repeat (first | with_reducible exact Kept.refl _ | with_reducible refine Kept.alloc ?_ _ | with_reducible refine Kept.drew ?_ | with_reducible refine Kept.setCell ?_ (by simp only [World.size_alloc, World.size_setCell, World.size_drew]; omega) _))).call hb
    have N4' : IsN w3 u2_9 (Q) := (IsN.kept N4 (by repeat (first | with_reducible exact Kept.refl _ | with_reducible refine Kept.alloc ?_ _ | with_reducible refine Kept.drew ?_ | with_reducible refine Kept.setCell ?_ (by simp only [World.size_alloc, World.size_setCell, World.size_drew]; omega) _))).call hb
    have hk' : Kept w.heap.size w w3 := Kept.step (by repeat (first | with_reducible exact hk | with_reducible exact Kept.refl _ | with_reducible refine Kept.alloc ?_ _ | with_reducible refine Kept.drew ?_ | with_reducible refine Kept.setCell ?_ (by simp only [World.size_alloc, World.size_setCell, World.size_drew]; omega) _)) hb
    clear hk hb
    clear X1 X1l1 X1l2 X1l3 X1f X10 X11 X12 X13
    clear X2 X2l1 X2l2 X2l3 X2f X20 X21 X22 X23
    clear X3 X3l1 X3l2 X3l3 X3f X30 X31 X32 X33
    have X3 := X3'
    clear X3'
    clear N3
    have N3 := N3'
    clear N3'
    clear N4
    have N4 := N4'
    clear N4'
    have hk := hk'
    clear hk'
    have hz_w3 := hk.size
    have X3l := X3.lt
    have X3f := X3.free
    have X3l1 : w.heap.size + 1 + 1 < w3.heap.size + 1 := by omega
    have X3l2 : w.heap.size + 1 + 1 < w3.heap.size + 1 + 1 := by omega
    have X3l3 : w.heap.size + 1 + 1 < w3.heap.size + 1 + 1 + 1 := by omega
    have X30 := X3.cell 0 _ rfl
    have X31 := X3.cell 1 _ rfl
    have X32 := X3.cell 2 _ rfl
    have X33 := X3.cell 3 _ rfl
    go_wp2_with fail
    (with_reducible refine (refCmp_any _ (IsN.kept N4 (by repeat (first | with_reducible exact Kept.refl _ | with_reducible refine Kept.alloc ?_ _ | with_reducible refine Kept.drew ?_ | with_reducible refine Kept.setCell ?_ (by simp only [World.size_alloc, World.size_setCell, World.size_drew]; omega) _))) (IsN.kept N3 (by repeat (first | with_reducible exact Kept.refl _ | with_reducible refine Kept.alloc ?_ _ | with_reducible refine Kept.drew ?_ | with_reducible refine Kept.setCell ?_ (by simp only [World.size_alloc, World.size_setCell, World.size_drew]; omega) _))) (by omega) (by omega)).mono ?_)
    rintro e w4 ⟨rfl, hb⟩
    have X3' : Box w4 (w.heap.size + 1 + 1) #[.int .u64 0, .int .u64 0, .int .u64 0, .int .u64 0] := Box.call hb (by repeat (first | with_reducible assumption | with_reducible apply Box.set10 | with_reducible apply Box.set20 | with_reducible apply Box.set21 | with_reducible apply Box.set40 | with_reducible apply Box.set41 | with_reducible apply Box.set42 | with_reducible apply Box.set43 | with_reducible apply Box.set50 | with_reducible apply Box.set51 | with_reducible apply Box.set52 | with_reducible apply Box.set53 | with_reducible apply Box.set54 | with_reducible apply Box.drew | (with_reducible apply Box.newAt; (try simp only [World.size_alloc, World.size_setCell, World.size_drew]); done) | with_reducible apply Box.alloc | (with_reducible apply Box.other; case hne => ((try simp only [World.size_alloc, World.size_setCell, World.size_drew]); omega))))
    have N3' : IsN w4 u2_8 (P) := (IsN.kept N3 (by repeat (first | with_reducible exact Kept.refl _ | with_reducible refine Kept.alloc ?_ _ | with_reducible refine Kept.drew ?_ | with_reducible refine Kept.setCell ?_ (by simp only [World.size_alloc, World.size_setCell, World.size_drew]; omega) _))).call hb
    have N4' : IsN w4 u2_9 (Q) := (IsN.kept N4 (by repeat (first | with_reducible exact Kept.refl _ | with_reducible refine Kept.alloc ?_ _ | with_reducible refine Kept.drew ?_ | with_reducible refine Kept.setCell ?_ (by simp only [World.size_alloc, World.size_setCell, World.size_drew]; omega) _))).call hb
    have hk' : Kept w.heap.size w w4 := Kept.step (by repeat (first | with_reducible exact hk | with_reducible exact Kept.refl _ | with_reducible refine Kept.alloc ?_ _ | with_reducible refine Kept.drew ?_ | with_reducible refine Kept.setCell ?_ (by simp only [World.size_alloc, World.size_setCell, World.size_drew]; omega) _)) hb
    clear hk hb
    clear X3 X3l1 X3l2 X3l3 X3f X30 X31 X32 X33
    have X3 := X3'
    clear X3'
    clear N3
    have N3 := N3'
    clear N3'
    clear N4
    have N4 := N4'
    clear N4'
    have hk := hk'
    clear hk'
    have hz_w4 := hk.size
    have X3l := X3.lt
    have X3f := X3.free
    have X3l1 : w.heap.size + 1 + 1 < w4.heap.size + 1 := by omega
    have X3l2 : w.heap.size + 1 + 1 < w4.heap.size + 1 + 1 := by omega
    have X3l3 : w.heap.size + 1 + 1 < w4.heap.size + 1 + 1 + 1 := by omega
    have X30 := X3.cell 0 _ rfl
    have X31 := X3.cell 1 _ rfl
    have X32 := X3.cell 2 _ rfl
    have X33 := X3.cell 3 _ rfl
    go_wp2_with fail
    (with_reducible refine (refSub_any _ (IsN.kept N4 (by repeat (first | with_reducible exact Kept.refl _ | with_reducible refine Kept.alloc ?_ _ | with_reducible refine Kept.drew ?_ | with_reducible refine Kept.setCell ?_ (by simp only [World.size_alloc, World.size_setCell, World.size_drew]; omega) _))) (IsN.kept N3 (by repeat (first | with_reducible exact Kept.refl _ | with_reducible refine Kept.alloc ?_ _ | with_reducible refine Kept.drew ?_ | with_reducible refine Kept.setCell ?_ (by simp only [World.size_alloc, World.size_setCell, World.size_drew]; omega) _))) (by omega) (by omega) HLE.out).mono ?_)
    rintro e w5 ⟨vN5, rfl, N5_, hb⟩
    have X3' : Box w5 (w.heap.size + 1 + 1) #[.int .u64 0, .int .u64 0, .int .u64 0, .int .u64 0] := Box.call hb (by repeat (first | with_reducible assumption | with_reducible apply Box.set10 | with_reducible apply Box.set20 | with_reducible apply Box.set21 | with_reducible apply Box.set40 | with_reducible apply Box.set41 | with_reducible apply Box.set42 | with_reducible apply Box.set43 | with_reducible apply Box.set50 | with_reducible apply Box.set51 | with_reducible apply Box.set52 | with_reducible apply Box.set53 | with_reducible apply Box.set54 | with_reducible apply Box.drew | (with_reducible apply Box.newAt; (try simp only [World.size_alloc, World.size_setCell, World.size_drew]); done) | with_reducible apply Box.alloc | (with_reducible apply Box.other; case hne => ((try simp only [World.size_alloc, World.size_setCell, World.size_drew]); omega))))
    have N3' : IsN w5 u2_8 (P) := (IsN.kept N3 (by repeat (first | with_reducible exact Kept.refl _ | with_reducible refine Kept.alloc ?_ _ | with_reducible refine Kept.drew ?_ | with_reducible refine Kept.setCell ?_ (by simp only [World.size_alloc, World.size_setCell, World.size_drew]; omega) _))).call hb
    have N4' : IsN w5 u2_9 (Q) := (IsN.kept N4 (by repeat (first | with_reducible exact Kept.refl _ | with_reducible refine Kept.alloc ?_ _ | with_reducible refine Kept.drew ?_ | with_reducible refine Kept.setCell ?_ (by simp only [World.size_alloc, World.size_setCell, World.size_drew]; omega) _))).call hb
    have hk' : Kept w.heap.size w w5 := Kept.step (by repeat (first | with_reducible exact hk | with_reducible exact Kept.refl _ | with_reducible refine Kept.alloc ?_ _ | with_reducible refine Kept.drew ?_ | with_reducible refine Kept.setCell ?_ (by simp only [World.size_alloc, World.size_setCell, World.size_drew]; omega) _)) hb
    clear hk hb
    clear X3 X3l1 X3l2 X3l3 X3f X30 X31 X32 X33
    have X3 := X3'
    clear X3'
    clear N3
    have N3 := N3'
    clear N3'
    clear N4
    have N4 := N4'
    clear N4'
    have hk := hk'
    clear hk'
    have hz_w5 := hk.size
    have X3l := X3.lt
    have X3f := X3.free
    have X3l1 : w.heap.size + 1 + 1 < w5.heap.size + 1 := by omega
    have X3l2 : w.heap.size + 1 + 1 < w5.heap.size + 1 + 1 := by omega
    have X3l3 : w.heap.size + 1 + 1 < w5.heap.size + 1 + 1 + 1 := by omega
    have X30 := X3.cell 0 _ rfl
    have X31 := X3.cell 1 _ rfl
    have X32 := X3.cell 2 _ rfl
    have X33 := X3.cell 3 _ rfl
    have N5 : IsN w5 vN5 (Q - P) := N5_
    clear N5_
    clear N3
    clear N4
    go_wp2_with fail
    (with_reducible refine (Low_eq HW.out _ (IsN.kept N5 (by repeat (first | with_reducible exact Kept.refl _ | with_reducible refine Kept.alloc ?_ _ | with_reducible refine Kept.drew ?_ | with_reducible refine Kept.setCell ?_ (by simp only [World.size_alloc, World.size_setCell, World.size_drew]; omega) _))) (by omega)).mono ?_)
    rintro e w6 ⟨rfl, hb⟩
    have X3' : Box w6 (w.heap.size + 1 + 1) #[.int .u64 0, .int .u64 0, .int .u64 0, .int .u64 0] := Box.call hb (by repeat (first | with_reducible assumption | with_reducible apply Box.set10 | with_reducible apply Box.set20 | with_reducible apply Box.set21 | with_reducible apply Box.set40 | with_reducible apply Box.set41 | with_reducible apply Box.set42 | with_reducible apply Box.set43 | with_reducible apply Box.set50 | with_reducible apply Box.set51 | with_reducible apply Box.set52 | with_reducible apply Box.set53 | with_reducible apply Box.set54 | with_reducible apply Box.drew | (with_reducible apply Box.newAt; (try simp only [World.size_alloc, World.size_setCell, World.size_drew]); done) | with_reducible apply Box.alloc | (with_reducible apply Box.other; case hne => ((try simp only [World.size_alloc, World.size_setCell, World.size_drew]); omega))))
    have N5' : IsN w6 vN5 (Q - P) := (IsN.kept N5 (by repeat (first | with_reducible exact Kept.refl _ | with_reducible refine Kept.alloc ?_ _ | with_reducible refine Kept.drew ?_ | with_reducible refine Kept.setCell ?_ (by simp only [World.size_alloc, World.size_setCell, World.size_drew]; omega) _))).call hb
    have hk' : Kept w.heap.size w w6 := Kept.step (by repeat (first | with_reducible exact hk | with_reducible exact Kept.refl _ | with_reducible refine Kept.alloc ?_ _ | with_reducible refine Kept.drew ?_ | with_reducible refine Kept.setCell ?_ (by simp only [World.size_alloc, World.size_setCell, World.size_drew]; omega) _)) hb
    clear hk hb
    clear X3 X3l1 X3l2 X3l3 X3f X30 X31 X32 X33
    have X3 := X3'
    clear X3'
    clear N5
    have N5 := N5'
    clear N5'
    have hk := hk'
    clear hk'
    have hz_w6 := hk.size
    have X3l := X3.lt
    have X3f := X3.free
    have X3l1 : w.heap.size + 1 + 1 < w6.heap.size + 1 := by omega
    have X3l2 : w.heap.size + 1 + 1 < w6.heap.size + 1 + 1 := by omega
    have X3l3 : w.heap.size + 1 + 1 < w6.heap.size + 1 + 1 + 1 := by omega
    have X30 := X3.cell 0 _ rfl
    have X31 := X3.cell 1 _ rfl
    have X32 := X3.cell 2 _ rfl
    have X33 := X3.cell 3 _ rfl
    go_wp2
    refine bodyPost_ret (v := .tuple #[.int .i64 L, wideV (sub256 Q P), .bool true]) (by simp [results, Try.results53, go_sem, X30, X31, X32, X33, hc]) rfl ⟨rfl, ?_⟩
    refine Kept.below ?_; repeat (first | with_reducible exact hk | with_reducible exact Kept.refl _ | with_reducible refine Kept.alloc ?_ _ | with_reducible refine Kept.drew ?_ | with_reducible refine Kept.setCell ?_ (by simp only [World.size_alloc, World.size_setCell, World.size_drew]; omega) _)

set_option maxRecDepth 100000 in
set_option maxHeartbeats 8000000 in
theorem ref17Diff_11 {x y L c : Int} {A B P Q : Nat} (hA : W256 A) (hB : W256 B) (hP : W256 P) (hQ : W256 Q) (l0 : -1099511627776 ≤ L) (l1 : L ≤ 1099511627776) (e0 : levelI (expI x) A (expI y) B = L) (e1 : sideI (expI x) A (L) = P) (e2 : sideI (expI y) B (L) = Q) (e3 : cmpT (expI x) A (expI y) B = c) (hc : c < 0) (hl : Q < P) (w : World) :
    Calls Try.prog 53 #[.int .i64 x, wideV A, .int .i64 y, wideV B] w fun e w' => e = .returned (.tuple #[.int .i64 L, wideV (sub256 Q P), .bool true]) ∧ Below w.heap.size w w' := by
  have hk := Kept.refl w
  obtain ⟨Z, hZ⟩ : ∃ Z : Nat, 2 ^ 256 = Z := ⟨_, rfl⟩
  have HL := Lib.hid e0; have E1 := Lib.hid e1; have E2 := Lib.hid e2
  have w1_ : IntKind.i64.wrap (L + 1) = L + 1 := IntWalk.i64_in _ (by omega)
  have hP2 := hP.lt; have hQ2 := hQ.lt
  have lP := len256 hP
  have lQ := len256 hQ
  have HC := Lib.hid e3
  have HW := Lib.hid (show wideV ((Q + Z) - P) = wideV (sub256 Q P) from wide_mod (by unfold sub256; omega))
  have HLE := Lib.hid (show P ≤ (Q + Z) by omega)
  have c1 : cmpN Q P < 0 := by rw [cmp_neg]; omega
  have lenZ : lenN Z ≤ 9 := lenN_le 9 Z (by omega)
  have ln : lenN (Q + Z) ≤ 9 := lenN_le 9 _ (by omega)
  have ld : lenN ((Q + Z) - P) ≤ 9 := lenN_le 9 _ (by omega)
  have HF := Lib.hid hZ
  clear e0 e1 e2 e3 hZ hl hP2 hQ2
  go_enter Try.func53, Try.ntmps53
  go_wp2_with fail
  (with_reducible refine (calls_to (V := .int .i64 (L)) (refLevel_any hA hB _) (by rw [HL.out])).mono ?_)
  rintro e w1 ⟨rfl, hb⟩
  have X1' : Box w1 (w.heap.size) #[.int .u64 (limb 0 A), .int .u64 (limb 1 A), .int .u64 (limb 2 A), .int .u64 (limb 3 A)] := Box.call hb (by repeat (first | with_reducible assumption | with_reducible apply Box.set10 | with_reducible apply Box.set20 | with_reducible apply Box.set21 | with_reducible apply Box.set40 | with_reducible apply Box.set41 | with_reducible apply Box.set42 | with_reducible apply Box.set43 | with_reducible apply Box.set50 | with_reducible apply Box.set51 | with_reducible apply Box.set52 | with_reducible apply Box.set53 | with_reducible apply Box.set54 | with_reducible apply Box.drew | (with_reducible apply Box.newAt; (try simp only [World.size_alloc, World.size_setCell, World.size_drew]); done) | with_reducible apply Box.alloc | (with_reducible apply Box.other; case hne => ((try simp only [World.size_alloc, World.size_setCell, World.size_drew]); omega))))
  have X2' : Box w1 (w.heap.size + 1) #[.int .u64 (limb 0 B), .int .u64 (limb 1 B), .int .u64 (limb 2 B), .int .u64 (limb 3 B)] := Box.call hb (by repeat (first | with_reducible assumption | with_reducible apply Box.set10 | with_reducible apply Box.set20 | with_reducible apply Box.set21 | with_reducible apply Box.set40 | with_reducible apply Box.set41 | with_reducible apply Box.set42 | with_reducible apply Box.set43 | with_reducible apply Box.set50 | with_reducible apply Box.set51 | with_reducible apply Box.set52 | with_reducible apply Box.set53 | with_reducible apply Box.set54 | with_reducible apply Box.drew | (with_reducible apply Box.newAt; (try simp only [World.size_alloc, World.size_setCell, World.size_drew]); done) | with_reducible apply Box.alloc | (with_reducible apply Box.other; case hne => ((try simp only [World.size_alloc, World.size_setCell, World.size_drew]); omega))))
  have X3' : Box w1 (w.heap.size + 1 + 1) #[.int .u64 0, .int .u64 0, .int .u64 0, .int .u64 0] := Box.call hb (by repeat (first | with_reducible assumption | with_reducible apply Box.set10 | with_reducible apply Box.set20 | with_reducible apply Box.set21 | with_reducible apply Box.set40 | with_reducible apply Box.set41 | with_reducible apply Box.set42 | with_reducible apply Box.set43 | with_reducible apply Box.set50 | with_reducible apply Box.set51 | with_reducible apply Box.set52 | with_reducible apply Box.set53 | with_reducible apply Box.set54 | with_reducible apply Box.drew | (with_reducible apply Box.newAt; (try simp only [World.size_alloc, World.size_setCell, World.size_drew]); done) | with_reducible apply Box.alloc | (with_reducible apply Box.other; case hne => ((try simp only [World.size_alloc, World.size_setCell, World.size_drew]); omega))))
  have hk' : Kept w.heap.size w w1 := Kept.step (by repeat (first | with_reducible exact hk | with_reducible exact Kept.refl _ | with_reducible refine Kept.alloc ?_ _ | with_reducible refine Kept.drew ?_ | with_reducible refine Kept.setCell ?_ (by simp only [World.size_alloc, World.size_setCell, World.size_drew]; omega) _)) hb
  clear hk hb
  have X1 := X1'
  clear X1'
  have X2 := X2'
  clear X2'
  have X3 := X3'
  clear X3'
  have hk := hk'
  clear hk'
  have hz_w1 := hk.size
  have X1l := X1.lt
  have X1f := X1.free
  have X1l1 : w.heap.size < w1.heap.size + 1 := by omega
  have X1l2 : w.heap.size < w1.heap.size + 1 + 1 := by omega
  have X1l3 : w.heap.size < w1.heap.size + 1 + 1 + 1 := by omega
  have X10 := X1.cell 0 _ rfl
  have X11 := X1.cell 1 _ rfl
  have X12 := X1.cell 2 _ rfl
  have X13 := X1.cell 3 _ rfl
  have X2l := X2.lt
  have X2f := X2.free
  have X2l1 : w.heap.size + 1 < w1.heap.size + 1 := by omega
  have X2l2 : w.heap.size + 1 < w1.heap.size + 1 + 1 := by omega
  have X2l3 : w.heap.size + 1 < w1.heap.size + 1 + 1 + 1 := by omega
  have X20 := X2.cell 0 _ rfl
  have X21 := X2.cell 1 _ rfl
  have X22 := X2.cell 2 _ rfl
  have X23 := X2.cell 3 _ rfl
  have X3l := X3.lt
  have X3f := X3.free
  have X3l1 : w.heap.size + 1 + 1 < w1.heap.size + 1 := by omega
  have X3l2 : w.heap.size + 1 + 1 < w1.heap.size + 1 + 1 := by omega
  have X3l3 : w.heap.size + 1 + 1 < w1.heap.size + 1 + 1 + 1 := by omega
  have X30 := X3.cell 0 _ rfl
  have X31 := X3.cell 1 _ rfl
  have X32 := X3.cell 2 _ rfl
  have X33 := X3.cell 3 _ rfl
  go_wp2
  refine wp_region_g 10 (fun W' => Kept w.heap.size w W' ∧ w1.heap.size ≤ W'.heap.size ∧ Box W' (w.heap.size) #[.int .u64 (limb 0 A), .int .u64 (limb 1 A), .int .u64 (limb 2 A), .int .u64 (limb 3 A)] ∧ Box W' (w.heap.size + 1) #[.int .u64 (limb 0 B), .int .u64 (limb 1 B), .int .u64 (limb 2 B), .int .u64 (limb 3 B)] ∧ Box W' (w.heap.size + 1 + 1) #[.int .u64 0, .int .u64 0, .int .u64 0, .int .u64 0]) (fun W' => Kept w.heap.size w W' ∧ w1.heap.size ≤ W'.heap.size ∧ Box W' (w.heap.size) #[.int .u64 (limb 0 A), .int .u64 (limb 1 A), .int .u64 (limb 2 A), .int .u64 (limb 3 A)] ∧ Box W' (w.heap.size + 1) #[.int .u64 (limb 0 B), .int .u64 (limb 1 B), .int .u64 (limb 2 B), .int .u64 (limb 3 B)] ∧ Box W' (w.heap.size + 1 + 1) #[.int .u64 0, .int .u64 0, .int .u64 0, .int .u64 0]) 1000 (w1.heap.size) [.known (.int .i64 (x)), .known (wideV A), .known (.int .i64 (L)), .num (P), .known (.int .i64 (y)), .known (wideV B), .known (.int .i64 (L)), .num (Q), .num (P), .num (Q)] (by kernel_rfl) (by kernel_rfl) (fun W W' h hb => ⟨h.1.step hb, Nat.le_trans (h.2.1) hb.size, Box.call hb (h.2.2.1), Box.call hb (h.2.2.2.1), Box.call hb (h.2.2.2.2)⟩) (fun W W' h hb => ⟨h.1.step hb, Nat.le_trans (h.2.1) hb.size, Box.call hb (h.2.2.1), Box.call hb (h.2.2.2.1), Box.call hb (h.2.2.2.2)⟩) (no_out (of_decide_eq_true (by kernel_rfl))) (.inl (by kernel_rfl)) (.inl (by kernel_rfl)) (fun _ h => h.2.1) (fun _ h => h.2.1) (⟨(by repeat (first | with_reducible exact hk | with_reducible exact Kept.refl _ | with_reducible refine Kept.alloc ?_ _ | with_reducible refine Kept.drew ?_ | with_reducible refine Kept.setCell ?_ (by simp only [World.size_alloc, World.size_setCell, World.size_drew]; omega) _)), (by (try simp only [World.size_alloc, World.size_setCell, World.size_drew]); omega), (by repeat (first | with_reducible assumption | with_reducible apply Box.set10 | with_reducible apply Box.set20 | with_reducible apply Box.set21 | with_reducible apply Box.set40 | with_reducible apply Box.set41 | with_reducible apply Box.set42 | with_reducible apply Box.set43 | with_reducible apply Box.set50 | with_reducible apply Box.set51 | with_reducible apply Box.set52 | with_reducible apply Box.set53 | with_reducible apply Box.set54 | with_reducible apply Box.drew | (with_reducible apply Box.newAt; (try simp only [World.size_alloc, World.size_setCell, World.size_drew]); done) | with_reducible apply Box.alloc | (with_reducible apply Box.other; case hne => ((try simp only [World.size_alloc, World.size_setCell, World.size_drew]); omega)))), (by repeat (first | with_reducible assumption | with_reducible apply Box.set10 | with_reducible apply Box.set20 | with_reducible apply Box.set21 | with_reducible apply Box.set40 | with_reducible apply Box.set41 | with_reducible apply Box.set42 | with_reducible apply Box.set43 | with_reducible apply Box.set50 | with_reducible apply Box.set51 | with_reducible apply Box.set52 | with_reducible apply Box.set53 | with_reducible apply Box.set54 | with_reducible apply Box.drew | (with_reducible apply Box.newAt; (try simp only [World.size_alloc, World.size_setCell, World.size_drew]); done) | with_reducible apply Box.alloc | (with_reducible apply Box.other; case hne => ((try simp only [World.size_alloc, World.size_setCell, World.size_drew]); omega)))), (by repeat (first | with_reducible assumption | with_reducible apply Box.set10 | with_reducible apply Box.set20 | with_reducible apply Box.set21 | with_reducible apply Box.set40 | with_reducible apply Box.set41 | with_reducible apply Box.set42 | with_reducible apply Box.set43 | with_reducible apply Box.set50 | with_reducible apply Box.set51 | with_reducible apply Box.set52 | with_reducible apply Box.set53 | with_reducible apply Box.set54 | with_reducible apply Box.drew | (with_reducible apply Box.newAt; (try simp only [World.size_alloc, World.size_setCell, World.size_drew]); done) | with_reducible apply Box.alloc | (with_reducible apply Box.other; case hne => ((try simp only [World.size_alloc, World.size_setCell, World.size_drew]); omega))))⟩) ?_
  clear hk
  clear X1 X1l1 X1l2 X1l3 X1f X10 X11 X12 X13
  clear X2 X2l1 X2l2 X2l3 X2f X20 X21 X22 X23
  clear X3 X3l1 X3l2 X3l3 X3f X30 X31 X32 X33
  intro ρ
  simp only [List.take_succ_cons, List.take_zero, List.drop_succ_cons, List.drop_zero]
  refine ⟨?_, ?_⟩
  · as_aux_lemma =>
    intro y_ hS_ hO_ hD
    clear hS_ hO_ hD
    refine s_gen (V := .int .i64 (x)) [.int .i64 (x)] (by kernel_rfl) (by kernel_rfl) (by kernel_rfl) ?_
    intro r_ hr_
    have o0_ : r_ (.tmp 0) = .int .i64 (x) := op_at hr_ 0 (by kernel_rfl) (by kernel_rfl)
    clear hr_
    go_simp; first | done | with_reducible rfl | omega
  simp only [Act.put, planVG, List.setIfInBounds_toArray, List.set_cons_zero, List.set_cons_succ, List.getElem?_cons_zero, List.getElem?_cons_succ]
  refine ⟨?_, ?_⟩
  · as_aux_lemma =>
    intro y_ hS_ hO_ hD
    have Q := ((hS_ (by rfl)).2.2.1).cell
    have q0 := Q 0 _ rfl
    have q1 := Q 1 _ rfl
    have q2 := Q 2 _ rfl
    have q3 := Q 3 _ rfl
    clear Q hS_ hO_ hD
    refine s_gen (V := wideV A) [.pointer (some ⟨w.heap.size, 0, none⟩)] (by kernel_rfl) (by kernel_rfl) (by kernel_rfl) ?_
    intro r_ hr_
    have o0_ : r_ (.tmp 5) = .pointer (some ⟨w.heap.size, 0, none⟩) := op_at hr_ 0 (by kernel_rfl) (by kernel_rfl)
    clear hr_
    go_simp; first | done | with_reducible rfl
  simp only [Act.put, planVG, List.setIfInBounds_toArray, List.set_cons_zero, List.set_cons_succ, List.getElem?_cons_zero, List.getElem?_cons_succ]
  refine ⟨?_, ?_⟩
  · as_aux_lemma =>
    intro y_ hS_ hO_ hD
    clear hS_ hO_ hD
    refine s_gen (V := .int .i64 (L)) [.int .i64 (L)] (by kernel_rfl) (by kernel_rfl) (by kernel_rfl) ?_
    intro r_ hr_
    have o0_ : r_ (.tmp 11) = .int .i64 (L) := op_at hr_ 0 (by kernel_rfl) (by kernel_rfl)
    clear hr_
    go_simp; first | done | with_reducible rfl | omega
  simp only [Act.put, planVG, List.setIfInBounds_toArray, List.set_cons_zero, List.set_cons_succ, List.getElem?_cons_zero, List.getElem?_cons_succ]
  refine ⟨?_, ?_⟩
  · as_aux_lemma =>
    intro y_ hS_ hO_ hD
    try clear hS
    clear hS_ hO_ hD
    refine s_gcallN (A := P) [.func (.func 76) #[] #[], .int .i64 (x), wideV A, .int .i64 (L)] ?_ ?_ (by kernel_rfl) (by kernel_rfl) (by kernel_rfl) ?_ ?_
    rotate_left 2
    · intro r_ hr_
      have o0_ : r_ (.func 76) = .func (.func 76) #[] #[] := op_at hr_ 0 (by kernel_rfl) (by kernel_rfl)
      have o1_ : r_ (.tmp 20) = .int .i64 (x) := op_at hr_ 1 (by kernel_rfl) (by kernel_rfl)
      have o2_ : r_ (.tmp 21) = wideV A := op_at hr_ 2 (by kernel_rfl) (by kernel_rfl)
      have o3_ : r_ (.tmp 22) = .int .i64 (L) := op_at hr_ 3 (by kernel_rfl) (by kernel_rfl)
      clear hr_
      go_simp; first | done | with_reducible rfl | (constructor <;> with_reducible rfl)
    · refine refAt_to hA E1.out (by omega) (by omega) _
  simp only [Act.put, planVG, List.setIfInBounds_toArray, List.set_cons_zero, List.set_cons_succ, List.getElem?_cons_zero, List.getElem?_cons_succ]
  refine ⟨?_, ?_⟩
  · as_aux_lemma =>
    intro y_ hS_ hO_ hD
    clear hS_ hO_ hD
    refine s_gen (V := .int .i64 (y)) [.int .i64 (y)] (by kernel_rfl) (by kernel_rfl) (by kernel_rfl) ?_
    intro r_ hr_
    have o0_ : r_ (.tmp 2) = .int .i64 (y) := op_at hr_ 0 (by kernel_rfl) (by kernel_rfl)
    clear hr_
    go_simp; first | done | with_reducible rfl | omega
  simp only [Act.put, planVG, List.setIfInBounds_toArray, List.set_cons_zero, List.set_cons_succ, List.getElem?_cons_zero, List.getElem?_cons_succ]
  refine ⟨?_, ?_⟩
  · as_aux_lemma =>
    intro y_ hS_ hO_ hD
    have Q := ((hS_ (by rfl)).2.2.2.1).cell
    have q0 := Q 0 _ rfl
    have q1 := Q 1 _ rfl
    have q2 := Q 2 _ rfl
    have q3 := Q 3 _ rfl
    clear Q hS_ hO_ hD
    refine s_gen (V := wideV B) [.pointer (some ⟨w.heap.size + 1, 0, none⟩)] (by kernel_rfl) (by kernel_rfl) (by kernel_rfl) ?_
    intro r_ hr_
    have o0_ : r_ (.tmp 7) = .pointer (some ⟨w.heap.size + 1, 0, none⟩) := op_at hr_ 0 (by kernel_rfl) (by kernel_rfl)
    clear hr_
    go_simp; first | done | with_reducible rfl
  simp only [Act.put, planVG, List.setIfInBounds_toArray, List.set_cons_zero, List.set_cons_succ, List.getElem?_cons_zero, List.getElem?_cons_succ]
  refine ⟨?_, ?_⟩
  · as_aux_lemma =>
    intro y_ hS_ hO_ hD
    clear hS_ hO_ hD
    refine s_gen (V := .int .i64 (L)) [.int .i64 (L)] (by kernel_rfl) (by kernel_rfl) (by kernel_rfl) ?_
    intro r_ hr_
    have o0_ : r_ (.tmp 11) = .int .i64 (L) := op_at hr_ 0 (by kernel_rfl) (by kernel_rfl)
    clear hr_
    go_simp; first | done | with_reducible rfl | omega
  simp only [Act.put, planVG, List.setIfInBounds_toArray, List.set_cons_zero, List.set_cons_succ, List.getElem?_cons_zero, List.getElem?_cons_succ]
  refine ⟨?_, ?_⟩
  · as_aux_lemma =>
    intro y_ hS_ hO_ hD
    try clear hS
    clear hS_ hO_ hD
    refine s_gcallN (A := Q) [.func (.func 76) #[] #[], .int .i64 (y), wideV B, .int .i64 (L)] ?_ ?_ (by kernel_rfl) (by kernel_rfl) (by kernel_rfl) ?_ ?_
    rotate_left 2
    · intro r_ hr_
      have o0_ : r_ (.func 76) = .func (.func 76) #[] #[] := op_at hr_ 0 (by kernel_rfl) (by kernel_rfl)
      have o1_ : r_ (.tmp 24) = .int .i64 (y) := op_at hr_ 1 (by kernel_rfl) (by kernel_rfl)
      have o2_ : r_ (.tmp 25) = wideV B := op_at hr_ 2 (by kernel_rfl) (by kernel_rfl)
      have o3_ : r_ (.tmp 26) = .int .i64 (L) := op_at hr_ 3 (by kernel_rfl) (by kernel_rfl)
      clear hr_
      go_simp; first | done | with_reducible rfl | (constructor <;> with_reducible rfl)
    · refine refAt_to hB E2.out (by omega) (by omega) _
  simp only [Act.put, planVG, List.setIfInBounds_toArray, List.set_cons_zero, List.set_cons_succ, List.getElem?_cons_zero, List.getElem?_cons_succ]
  refine ⟨?_, ?_⟩
  · as_aux_lemma =>
    intro y_ hS_ hO_ hD
    have hS := hS_ (by rfl)
    have n_ : IsN y_ (ρ 3) (P) := hD 3 (by decide) (by rfl)
    clear hS hS_ hO_ hD
    exact s_num (by rfl) (by rfl) (by rfl) n_
  simp only [Act.put, planVG, List.setIfInBounds_toArray, List.set_cons_zero, List.set_cons_succ, List.getElem?_cons_zero, List.getElem?_cons_succ]
  refine ⟨?_, ?_⟩
  · as_aux_lemma =>
    intro y_ hS_ hO_ hD
    have hS := hS_ (by rfl)
    have n_ : IsN y_ (ρ 7) (Q) := hD 7 (by decide) (by rfl)
    clear hS hS_ hO_ hD
    exact s_num (by rfl) (by rfl) (by rfl) n_
  simp only [Act.put, planVG, List.setIfInBounds_toArray, List.set_cons_zero, List.set_cons_succ, List.getElem?_cons_zero, List.getElem?_cons_succ]
  as_aux_lemma =>
    intro w2 hS hF hD_
    change wpList _ _ _ _ _ _
    replace hS := sg_no (by decide) hS
    obtain ⟨hk, hZ2, X1, X2, X3⟩ := hS
    have M3 : IsN w2 (ρ 3) (P) := hF 3 (by decide)
    have M7 : IsN w2 (ρ 7) (Q) := hF 7 (by decide)
    have M8 : IsN w2 (ρ 8) (P) := hF 8 (by decide)
    have M9 : IsN w2 (ρ 9) (Q) := hF 9 (by decide)
    clear hF hD_
    generalize ρ 3 = u2_3 at *
    generalize ρ 7 = u2_7 at *
    generalize ρ 8 = u2_8 at *
    generalize ρ 9 = u2_9 at *
    clear ρ
    have hz_w2 := hk.size
    have X1l := X1.lt
    have X1f := X1.free
    have X1l1 : w.heap.size < w2.heap.size + 1 := by omega
    have X1l2 : w.heap.size < w2.heap.size + 1 + 1 := by omega
    have X1l3 : w.heap.size < w2.heap.size + 1 + 1 + 1 := by omega
    have X10 := X1.cell 0 _ rfl
    have X11 := X1.cell 1 _ rfl
    have X12 := X1.cell 2 _ rfl
    have X13 := X1.cell 3 _ rfl
    have X2l := X2.lt
    have X2f := X2.free
    have X2l1 : w.heap.size + 1 < w2.heap.size + 1 := by omega
    have X2l2 : w.heap.size + 1 < w2.heap.size + 1 + 1 := by omega
    have X2l3 : w.heap.size + 1 < w2.heap.size + 1 + 1 + 1 := by omega
    have X20 := X2.cell 0 _ rfl
    have X21 := X2.cell 1 _ rfl
    have X22 := X2.cell 2 _ rfl
    have X23 := X2.cell 3 _ rfl
    have X3l := X3.lt
    have X3f := X3.free
    have X3l1 : w.heap.size + 1 + 1 < w2.heap.size + 1 := by omega
    have X3l2 : w.heap.size + 1 + 1 < w2.heap.size + 1 + 1 := by omega
    have X3l3 : w.heap.size + 1 + 1 < w2.heap.size + 1 + 1 + 1 := by omega
    have X30 := X3.cell 0 _ rfl
    have X31 := X3.cell 1 _ rfl
    have X32 := X3.cell 2 _ rfl
    have X33 := X3.cell 3 _ rfl
    clear M3
    clear M7
    have N3 := M8
    clear M8
    have N4 := M9
    clear M9
    go_wp2_with fail
    (with_reducible refine (calls_to (V := .int .i64 (c)) (ref17Cmp_any hA hB _) (by rw [HC.out])).mono ?_)
    rintro e w3 ⟨rfl, hb⟩
    have X3' : Box w3 (w.heap.size + 1 + 1) #[.int .u64 0, .int .u64 0, .int .u64 0, .int .u64 0] := Box.call hb (by repeat (first | with_reducible assumption | with_reducible apply Box.set10 | with_reducible apply Box.set20 | with_reducible apply Box.set21 | with_reducible apply Box.set40 | with_reducible apply Box.set41 | with_reducible apply Box.set42 | with_reducible apply Box.set43 | with_reducible apply Box.set50 | with_reducible apply Box.set51 | with_reducible apply Box.set52 | with_reducible apply Box.set53 | with_reducible apply Box.set54 | with_reducible apply Box.drew | (with_reducible apply Box.newAt; (try simp only [World.size_alloc, World.size_setCell, World.size_drew]); done) | with_reducible apply Box.alloc | (with_reducible apply Box.other; case hne => ((try simp only [World.size_alloc, World.size_setCell, World.size_drew]); omega))))
    have N3' : IsN w3 u2_8 (P) := (IsN.kept N3 (by repeat (first | with_reducible exact Kept.refl _ | with_reducible refine Kept.alloc ?_ _ | with_reducible refine Kept.drew ?_ | with_reducible refine Kept.setCell ?_ (by simp only [World.size_alloc, World.size_setCell, World.size_drew]; omega) _))).call hb
    have N4' : IsN w3 u2_9 (Q) := (IsN.kept N4 (by repeat (first | with_reducible exact Kept.refl _ | with_reducible refine Kept.alloc ?_ _ | with_reducible refine Kept.drew ?_ | with_reducible refine Kept.setCell ?_ (by simp only [World.size_alloc, World.size_setCell, World.size_drew]; omega) _))).call hb
    have hk' : Kept w.heap.size w w3 := Kept.step (by repeat (first | with_reducible exact hk | with_reducible exact Kept.refl _ | with_reducible refine Kept.alloc ?_ _ | with_reducible refine Kept.drew ?_ | with_reducible refine Kept.setCell ?_ (by simp only [World.size_alloc, World.size_setCell, World.size_drew]; omega) _)) hb
    clear hk hb
    clear X1 X1l1 X1l2 X1l3 X1f X10 X11 X12 X13
    clear X2 X2l1 X2l2 X2l3 X2f X20 X21 X22 X23
    clear X3 X3l1 X3l2 X3l3 X3f X30 X31 X32 X33
    have X3 := X3'
    clear X3'
    clear N3
    have N3 := N3'
    clear N3'
    clear N4
    have N4 := N4'
    clear N4'
    have hk := hk'
    clear hk'
    have hz_w3 := hk.size
    have X3l := X3.lt
    have X3f := X3.free
    have X3l1 : w.heap.size + 1 + 1 < w3.heap.size + 1 := by omega
    have X3l2 : w.heap.size + 1 + 1 < w3.heap.size + 1 + 1 := by omega
    have X3l3 : w.heap.size + 1 + 1 < w3.heap.size + 1 + 1 + 1 := by omega
    have X30 := X3.cell 0 _ rfl
    have X31 := X3.cell 1 _ rfl
    have X32 := X3.cell 2 _ rfl
    have X33 := X3.cell 3 _ rfl
    go_wp2_with fail
    (with_reducible refine (refCmp_any _ (IsN.kept N4 (by repeat (first | with_reducible exact Kept.refl _ | with_reducible refine Kept.alloc ?_ _ | with_reducible refine Kept.drew ?_ | with_reducible refine Kept.setCell ?_ (by simp only [World.size_alloc, World.size_setCell, World.size_drew]; omega) _))) (IsN.kept N3 (by repeat (first | with_reducible exact Kept.refl _ | with_reducible refine Kept.alloc ?_ _ | with_reducible refine Kept.drew ?_ | with_reducible refine Kept.setCell ?_ (by simp only [World.size_alloc, World.size_setCell, World.size_drew]; omega) _))) (by omega) (by omega)).mono ?_)
    rintro e w4 ⟨rfl, hb⟩
    have X3' : Box w4 (w.heap.size + 1 + 1) #[.int .u64 0, .int .u64 0, .int .u64 0, .int .u64 0] := Box.call hb (by repeat (first | with_reducible assumption | with_reducible apply Box.set10 | with_reducible apply Box.set20 | with_reducible apply Box.set21 | with_reducible apply Box.set40 | with_reducible apply Box.set41 | with_reducible apply Box.set42 | with_reducible apply Box.set43 | with_reducible apply Box.set50 | with_reducible apply Box.set51 | with_reducible apply Box.set52 | with_reducible apply Box.set53 | with_reducible apply Box.set54 | with_reducible apply Box.drew | (with_reducible apply Box.newAt; (try simp only [World.size_alloc, World.size_setCell, World.size_drew]); done) | with_reducible apply Box.alloc | (with_reducible apply Box.other; case hne => ((try simp only [World.size_alloc, World.size_setCell, World.size_drew]); omega))))
    have N3' : IsN w4 u2_8 (P) := (IsN.kept N3 (by repeat (first | with_reducible exact Kept.refl _ | with_reducible refine Kept.alloc ?_ _ | with_reducible refine Kept.drew ?_ | with_reducible refine Kept.setCell ?_ (by simp only [World.size_alloc, World.size_setCell, World.size_drew]; omega) _))).call hb
    have N4' : IsN w4 u2_9 (Q) := (IsN.kept N4 (by repeat (first | with_reducible exact Kept.refl _ | with_reducible refine Kept.alloc ?_ _ | with_reducible refine Kept.drew ?_ | with_reducible refine Kept.setCell ?_ (by simp only [World.size_alloc, World.size_setCell, World.size_drew]; omega) _))).call hb
    have hk' : Kept w.heap.size w w4 := Kept.step (by repeat (first | with_reducible exact hk | with_reducible exact Kept.refl _ | with_reducible refine Kept.alloc ?_ _ | with_reducible refine Kept.drew ?_ | with_reducible refine Kept.setCell ?_ (by simp only [World.size_alloc, World.size_setCell, World.size_drew]; omega) _)) hb
    clear hk hb
    clear X3 X3l1 X3l2 X3l3 X3f X30 X31 X32 X33
    have X3 := X3'
    clear X3'
    clear N3
    have N3 := N3'
    clear N3'
    clear N4
    have N4 := N4'
    clear N4'
    have hk := hk'
    clear hk'
    have hz_w4 := hk.size
    have X3l := X3.lt
    have X3f := X3.free
    have X3l1 : w.heap.size + 1 + 1 < w4.heap.size + 1 := by omega
    have X3l2 : w.heap.size + 1 + 1 < w4.heap.size + 1 + 1 := by omega
    have X3l3 : w.heap.size + 1 + 1 < w4.heap.size + 1 + 1 + 1 := by omega
    have X30 := X3.cell 0 _ rfl
    have X31 := X3.cell 1 _ rfl
    have X32 := X3.cell 2 _ rfl
    have X33 := X3.cell 3 _ rfl
    go_wp2_with fail
    (with_reducible refine (refFullF HF.out (by omega) (by omega) _).mono ?_)
    rintro e w5 ⟨vN5, rfl, N5_, hb⟩
    have X3' : Box w5 (w.heap.size + 1 + 1) #[.int .u64 0, .int .u64 0, .int .u64 0, .int .u64 0] := Box.call hb (by repeat (first | with_reducible assumption | with_reducible apply Box.set10 | with_reducible apply Box.set20 | with_reducible apply Box.set21 | with_reducible apply Box.set40 | with_reducible apply Box.set41 | with_reducible apply Box.set42 | with_reducible apply Box.set43 | with_reducible apply Box.set50 | with_reducible apply Box.set51 | with_reducible apply Box.set52 | with_reducible apply Box.set53 | with_reducible apply Box.set54 | with_reducible apply Box.drew | (with_reducible apply Box.newAt; (try simp only [World.size_alloc, World.size_setCell, World.size_drew]); done) | with_reducible apply Box.alloc | (with_reducible apply Box.other; case hne => ((try simp only [World.size_alloc, World.size_setCell, World.size_drew]); omega))))
    have N3' : IsN w5 u2_8 (P) := (IsN.kept N3 (by repeat (first | with_reducible exact Kept.refl _ | with_reducible refine Kept.alloc ?_ _ | with_reducible refine Kept.drew ?_ | with_reducible refine Kept.setCell ?_ (by simp only [World.size_alloc, World.size_setCell, World.size_drew]; omega) _))).call hb
    have N4' : IsN w5 u2_9 (Q) := (IsN.kept N4 (by repeat (first | with_reducible exact Kept.refl _ | with_reducible refine Kept.alloc ?_ _ | with_reducible refine Kept.drew ?_ | with_reducible refine Kept.setCell ?_ (by simp only [World.size_alloc, World.size_setCell, World.size_drew]; omega) _))).call hb
    have hk' : Kept w.heap.size w w5 := Kept.step (by repeat (first | with_reducible exact hk | with_reducible exact Kept.refl _ | with_reducible refine Kept.alloc ?_ _ | with_reducible refine Kept.drew ?_ | with_reducible refine Kept.setCell ?_ (by simp only [World.size_alloc, World.size_setCell, World.size_drew]; omega) _)) hb
    clear hk hb
    clear X3 X3l1 X3l2 X3l3 X3f X30 X31 X32 X33
    have X3 := X3'
    clear X3'
    clear N3
    have N3 := N3'
    clear N3'
    clear N4
    have N4 := N4'
    clear N4'
    have hk := hk'
    clear hk'
    have hz_w5 := hk.size
    have X3l := X3.lt
    have X3f := X3.free
    have X3l1 : w.heap.size + 1 + 1 < w5.heap.size + 1 := by omega
    have X3l2 : w.heap.size + 1 + 1 < w5.heap.size + 1 + 1 := by omega
    have X3l3 : w.heap.size + 1 + 1 < w5.heap.size + 1 + 1 + 1 := by omega
    have X30 := X3.cell 0 _ rfl
    have X31 := X3.cell 1 _ rfl
    have X32 := X3.cell 2 _ rfl
    have X33 := X3.cell 3 _ rfl
    have N5 : IsN w5 vN5 (Z) := N5_
    clear N5_
    go_wp2_with fail
    (with_reducible refine (refAdd_any _ (IsN.kept N4 (by repeat (first | with_reducible exact Kept.refl _ | with_reducible refine Kept.alloc ?_ _ | with_reducible refine Kept.drew ?_ | with_reducible refine Kept.setCell ?_ (by simp only [World.size_alloc, World.size_setCell, World.size_drew]; omega) _))) (IsN.kept N5 (by repeat (first | with_reducible exact Kept.refl _ | with_reducible refine Kept.alloc ?_ _ | with_reducible refine Kept.drew ?_ | with_reducible refine Kept.setCell ?_ (by simp only [World.size_alloc, World.size_setCell, World.size_drew]; omega) _))) (by omega) (by omega)).mono ?_)
    rintro e w6 ⟨vN6, rfl, N6_, hb⟩
    have X3' : Box w6 (w.heap.size + 1 + 1) #[.int .u64 0, .int .u64 0, .int .u64 0, .int .u64 0] := Box.call hb (by repeat (first | with_reducible assumption | with_reducible apply Box.set10 | with_reducible apply Box.set20 | with_reducible apply Box.set21 | with_reducible apply Box.set40 | with_reducible apply Box.set41 | with_reducible apply Box.set42 | with_reducible apply Box.set43 | with_reducible apply Box.set50 | with_reducible apply Box.set51 | with_reducible apply Box.set52 | with_reducible apply Box.set53 | with_reducible apply Box.set54 | with_reducible apply Box.drew | (with_reducible apply Box.newAt; (try simp only [World.size_alloc, World.size_setCell, World.size_drew]); done) | with_reducible apply Box.alloc | (with_reducible apply Box.other; case hne => ((try simp only [World.size_alloc, World.size_setCell, World.size_drew]); omega))))
    have N3' : IsN w6 u2_8 (P) := (IsN.kept N3 (by repeat (first | with_reducible exact Kept.refl _ | with_reducible refine Kept.alloc ?_ _ | with_reducible refine Kept.drew ?_ | with_reducible refine Kept.setCell ?_ (by simp only [World.size_alloc, World.size_setCell, World.size_drew]; omega) _))).call hb
    have N4' : IsN w6 u2_9 (Q) := (IsN.kept N4 (by repeat (first | with_reducible exact Kept.refl _ | with_reducible refine Kept.alloc ?_ _ | with_reducible refine Kept.drew ?_ | with_reducible refine Kept.setCell ?_ (by simp only [World.size_alloc, World.size_setCell, World.size_drew]; omega) _))).call hb
    have N5' : IsN w6 vN5 (Z) := (IsN.kept N5 (by repeat (first | with_reducible exact Kept.refl _ | with_reducible refine Kept.alloc ?_ _ | with_reducible refine Kept.drew ?_ | with_reducible refine Kept.setCell ?_ (by simp only [World.size_alloc, World.size_setCell, World.size_drew]; omega) _))).call hb
    have hk' : Kept w.heap.size w w6 := Kept.step (by repeat (first | with_reducible exact hk | with_reducible exact Kept.refl _ | with_reducible refine Kept.alloc ?_ _ | with_reducible refine Kept.drew ?_ | with_reducible refine Kept.setCell ?_ (by simp only [World.size_alloc, World.size_setCell, World.size_drew]; omega) _)) hb
    clear hk hb
    clear X3 X3l1 X3l2 X3l3 X3f X30 X31 X32 X33
    have X3 := X3'
    clear X3'
    clear N3
    have N3 := N3'
    clear N3'
    clear N4
    have N4 := N4'
    clear N4'
    clear N5
    have N5 := N5'
    clear N5'
    have hk := hk'
    clear hk'
    have hz_w6 := hk.size
    have X3l := X3.lt
    have X3f := X3.free
    have X3l1 : w.heap.size + 1 + 1 < w6.heap.size + 1 := by omega
    have X3l2 : w.heap.size + 1 + 1 < w6.heap.size + 1 + 1 := by omega
    have X3l3 : w.heap.size + 1 + 1 < w6.heap.size + 1 + 1 + 1 := by omega
    have X30 := X3.cell 0 _ rfl
    have X31 := X3.cell 1 _ rfl
    have X32 := X3.cell 2 _ rfl
    have X33 := X3.cell 3 _ rfl
    have N6 : IsN w6 vN6 (Q + Z) := N6_
    clear N6_
    clear N4
    clear N5
    go_wp2_with fail
    (with_reducible refine (refSub_any _ (IsN.kept N6 (by repeat (first | with_reducible exact Kept.refl _ | with_reducible refine Kept.alloc ?_ _ | with_reducible refine Kept.drew ?_ | with_reducible refine Kept.setCell ?_ (by simp only [World.size_alloc, World.size_setCell, World.size_drew]; omega) _))) (IsN.kept N3 (by repeat (first | with_reducible exact Kept.refl _ | with_reducible refine Kept.alloc ?_ _ | with_reducible refine Kept.drew ?_ | with_reducible refine Kept.setCell ?_ (by simp only [World.size_alloc, World.size_setCell, World.size_drew]; omega) _))) (by omega) (by omega) HLE.out).mono ?_)
    rintro e w7 ⟨vN7, rfl, N7_, hb⟩
    have X3' : Box w7 (w.heap.size + 1 + 1) #[.int .u64 0, .int .u64 0, .int .u64 0, .int .u64 0] := Box.call hb (by repeat (first | with_reducible assumption | with_reducible apply Box.set10 | with_reducible apply Box.set20 | with_reducible apply Box.set21 | with_reducible apply Box.set40 | with_reducible apply Box.set41 | with_reducible apply Box.set42 | with_reducible apply Box.set43 | with_reducible apply Box.set50 | with_reducible apply Box.set51 | with_reducible apply Box.set52 | with_reducible apply Box.set53 | with_reducible apply Box.set54 | with_reducible apply Box.drew | (with_reducible apply Box.newAt; (try simp only [World.size_alloc, World.size_setCell, World.size_drew]); done) | with_reducible apply Box.alloc | (with_reducible apply Box.other; case hne => ((try simp only [World.size_alloc, World.size_setCell, World.size_drew]); omega))))
    have N3' : IsN w7 u2_8 (P) := (IsN.kept N3 (by repeat (first | with_reducible exact Kept.refl _ | with_reducible refine Kept.alloc ?_ _ | with_reducible refine Kept.drew ?_ | with_reducible refine Kept.setCell ?_ (by simp only [World.size_alloc, World.size_setCell, World.size_drew]; omega) _))).call hb
    have N6' : IsN w7 vN6 (Q + Z) := (IsN.kept N6 (by repeat (first | with_reducible exact Kept.refl _ | with_reducible refine Kept.alloc ?_ _ | with_reducible refine Kept.drew ?_ | with_reducible refine Kept.setCell ?_ (by simp only [World.size_alloc, World.size_setCell, World.size_drew]; omega) _))).call hb
    have hk' : Kept w.heap.size w w7 := Kept.step (by repeat (first | with_reducible exact hk | with_reducible exact Kept.refl _ | with_reducible refine Kept.alloc ?_ _ | with_reducible refine Kept.drew ?_ | with_reducible refine Kept.setCell ?_ (by simp only [World.size_alloc, World.size_setCell, World.size_drew]; omega) _)) hb
    clear hk hb
    clear X3 X3l1 X3l2 X3l3 X3f X30 X31 X32 X33
    have X3 := X3'
    clear X3'
    clear N3
    have N3 := N3'
    clear N3'
    clear N6
    have N6 := N6'
    clear N6'
    have hk := hk'
    clear hk'
    have hz_w7 := hk.size
    have X3l := X3.lt
    have X3f := X3.free
    have X3l1 : w.heap.size + 1 + 1 < w7.heap.size + 1 := by omega
    have X3l2 : w.heap.size + 1 + 1 < w7.heap.size + 1 + 1 := by omega
    have X3l3 : w.heap.size + 1 + 1 < w7.heap.size + 1 + 1 + 1 := by omega
    have X30 := X3.cell 0 _ rfl
    have X31 := X3.cell 1 _ rfl
    have X32 := X3.cell 2 _ rfl
    have X33 := X3.cell 3 _ rfl
    have N7 : IsN w7 vN7 ((Q + Z) - P) := N7_
    clear N7_
    clear N3
    clear N6
    go_wp2_with fail
    (with_reducible refine (Low_eq HW.out _ (IsN.kept N7 (by repeat (first | with_reducible exact Kept.refl _ | with_reducible refine Kept.alloc ?_ _ | with_reducible refine Kept.drew ?_ | with_reducible refine Kept.setCell ?_ (by simp only [World.size_alloc, World.size_setCell, World.size_drew]; omega) _))) (by omega)).mono ?_)
    rintro e w8 ⟨rfl, hb⟩
    have X3' : Box w8 (w.heap.size + 1 + 1) #[.int .u64 0, .int .u64 0, .int .u64 0, .int .u64 0] := Box.call hb (by repeat (first | with_reducible assumption | with_reducible apply Box.set10 | with_reducible apply Box.set20 | with_reducible apply Box.set21 | with_reducible apply Box.set40 | with_reducible apply Box.set41 | with_reducible apply Box.set42 | with_reducible apply Box.set43 | with_reducible apply Box.set50 | with_reducible apply Box.set51 | with_reducible apply Box.set52 | with_reducible apply Box.set53 | with_reducible apply Box.set54 | with_reducible apply Box.drew | (with_reducible apply Box.newAt; (try simp only [World.size_alloc, World.size_setCell, World.size_drew]); done) | with_reducible apply Box.alloc | (with_reducible apply Box.other; case hne => ((try simp only [World.size_alloc, World.size_setCell, World.size_drew]); omega))))
    have N7' : IsN w8 vN7 ((Q + Z) - P) := (IsN.kept N7 (by repeat (first | with_reducible exact Kept.refl _ | with_reducible refine Kept.alloc ?_ _ | with_reducible refine Kept.drew ?_ | with_reducible refine Kept.setCell ?_ (by simp only [World.size_alloc, World.size_setCell, World.size_drew]; omega) _))).call hb
    have hk' : Kept w.heap.size w w8 := Kept.step (by repeat (first | with_reducible exact hk | with_reducible exact Kept.refl _ | with_reducible refine Kept.alloc ?_ _ | with_reducible refine Kept.drew ?_ | with_reducible refine Kept.setCell ?_ (by simp only [World.size_alloc, World.size_setCell, World.size_drew]; omega) _)) hb
    clear hk hb
    clear X3 X3l1 X3l2 X3l3 X3f X30 X31 X32 X33
    have X3 := X3'
    clear X3'
    clear N7
    have N7 := N7'
    clear N7'
    have hk := hk'
    clear hk'
    have hz_w8 := hk.size
    have X3l := X3.lt
    have X3f := X3.free
    have X3l1 : w.heap.size + 1 + 1 < w8.heap.size + 1 := by omega
    have X3l2 : w.heap.size + 1 + 1 < w8.heap.size + 1 + 1 := by omega
    have X3l3 : w.heap.size + 1 + 1 < w8.heap.size + 1 + 1 + 1 := by omega
    have X30 := X3.cell 0 _ rfl
    have X31 := X3.cell 1 _ rfl
    have X32 := X3.cell 2 _ rfl
    have X33 := X3.cell 3 _ rfl
    go_wp2
    refine bodyPost_ret (v := .tuple #[.int .i64 L, wideV (sub256 Q P), .bool true]) (by simp [results, Try.results53, go_sem, X30, X31, X32, X33, hc]) rfl ⟨rfl, ?_⟩
    refine Kept.below ?_; repeat (first | with_reducible exact hk | with_reducible exact Kept.refl _ | with_reducible refine Kept.alloc ?_ _ | with_reducible refine Kept.drew ?_ | with_reducible refine Kept.setCell ?_ (by simp only [World.size_alloc, World.size_setCell, World.size_drew]; omega) _)

theorem ref17Diff_ge {x y : Int} {A B : Nat} (hA : W256 A) (hB : W256 B) (hc : ¬ cmpT (expI x) A (expI y) B < 0) (w : World) :
    Calls Try.prog 53 #[.int .i64 x, wideV A, .int .i64 y, wideV B] w fun e w' => e = .returned (.tuple #[.int .i64 (levelI (expI x) A (expI y) B), wideV (sub256 (sideI (expI x) A (levelI (expI x) A (expI y) B)) (sideI (expI y) B (levelI (expI x) A (expI y) B))), .bool false]) ∧ Below w.heap.size w w' := by
  have hr := level_range A B (expI_range x) (expI_range y)
  rcases Nat.lt_or_ge (sideI (expI x) A (levelI (expI x) A (expI y) B)) (sideI (expI y) B (levelI (expI x) A (expI y) B)) with hl | hl
  · exact ref17Diff_01 hA hB (side_w hA _ _) (side_w hB _ _) hr.1 hr.2 rfl rfl rfl rfl hc hl w
  · exact ref17Diff_00 hA hB (side_w hA _ _) (side_w hB _ _) hr.1 hr.2 rfl rfl rfl rfl hc hl w
theorem ref17Diff_lt {x y : Int} {A B : Nat} (hA : W256 A) (hB : W256 B) (hc : cmpT (expI x) A (expI y) B < 0) (w : World) :
    Calls Try.prog 53 #[.int .i64 x, wideV A, .int .i64 y, wideV B] w fun e w' => e = .returned (.tuple #[.int .i64 (levelI (expI x) A (expI y) B), wideV (sub256 (sideI (expI y) B (levelI (expI x) A (expI y) B)) (sideI (expI x) A (levelI (expI x) A (expI y) B))), .bool true]) ∧ Below w.heap.size w w' := by
  have hr := level_range A B (expI_range x) (expI_range y)
  rcases Nat.lt_or_ge (sideI (expI y) B (levelI (expI x) A (expI y) B)) (sideI (expI x) A (levelI (expI x) A (expI y) B)) with hl | hl
  · exact ref17Diff_11 hA hB (side_w hA _ _) (side_w hB _ _) hr.1 hr.2 rfl rfl rfl rfl hc hl w
  · exact ref17Diff_10 hA hB (side_w hA _ _) (side_w hB _ _) hr.1 hr.2 rfl rfl rfl rfl hc hl w
end Go.Proofs.Ythpmbfdbknikcaa
