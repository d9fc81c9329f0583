/- The contract of mag.Sum. -/
import Derived.Test.YthpmbfdbknikcaaMag2
set_option linter.unusedVariables false
set_option linter.unusedSimpArgs false
namespace Go.Proofs.Ythpmbfdbknikcaa
open Go.RowKit

theorem sidx0 (a0 a1 a2 a3 a4 a5 a6 a7 a8 a9 : Value) (w : World) : (Instr.index 107 (.agg #[a0, a1, a2, a3, a4, a5, a6, a7, a8, a9]) (.int .i64 0)).run Try.prog w = .ok (.agg #[a0, a1, a2, a3, a4]) w := by kernel_rfl
theorem sidx1 (a0 a1 a2 a3 a4 a5 a6 a7 a8 a9 : Value) (w : World) : (Instr.index 107 (.agg #[a0, a1, a2, a3, a4, a5, a6, a7, a8, a9]) (.int .i64 1)).run Try.prog w = .ok (.agg #[a5, a6, a7, a8, a9]) w := by kernel_rfl
set_option maxRecDepth 100000 in
set_option maxHeartbeats 8000000 in
theorem Sum1_any {X Y : Nat} (hX : W256 X) (hY : W256 Y) (w : World) :
    Calls Try.prog 67 #[.agg #[.int .u64 (limb 0 X), .int .u64 (limb 1 X), .int .u64 (limb 2 X), .int .u64 (limb 3 X), .int .u64 (limb 0 Y), .int .u64 (limb 1 Y), .int .u64 (limb 2 Y), .int .u64 (limb 3 Y)]] w fun e w' => e = .returned (wideV (add256 X Y)) ∧ Below w.heap.size w w' := by
  have hk := Kept.refl w
  go_enter Try.func67, Try.ntmps67
  go_wp2_with fail
  (with_reducible refine (AddW_at (IsWide.of hX) (IsWide.of hY) _).mono ?_)
  rintro e w1 ⟨rfl, hb⟩
  have X2' : Box w1 (w.heap.size + 1) #[.int .u64 0, .int .u64 0, .int .u64 0, .int .u64 0] := Box.call hb (by repeat (first | with_reducible assumption | with_reducible apply Box.set10 | with_reducible apply Box.set20 | with_reducible apply Box.set21 | with_reducible apply Box.set40 | with_reducible apply Box.set41 | with_reducible apply Box.set42 | with_reducible apply Box.set43 | with_reducible apply Box.set50 | with_reducible apply Box.set51 | with_reducible apply Box.set52 | with_reducible apply Box.set53 | with_reducible apply Box.set54 | with_reducible apply Box.set80 | with_reducible apply Box.set81 | with_reducible apply Box.set82 | with_reducible apply Box.set83 | with_reducible apply Box.set84 | with_reducible apply Box.set85 | with_reducible apply Box.set86 | with_reducible apply Box.set87 | with_reducible apply Box.drew | (with_reducible apply Box.newAt; (try simp only [World.size_alloc, World.size_setCell, World.size_drew]); done) | with_reducible apply Box.alloc | (with_reducible apply Box.other; case hne => ((try simp only [World.size_alloc, World.size_setCell, World.size_drew]); omega))))
  have hk' : Kept w.heap.size w w1 := Kept.step (by repeat (first | with_reducible exact hk | with_reducible exact Kept.refl _ | with_reducible refine Kept.alloc ?_ _ | with_reducible refine Kept.drew ?_ | with_reducible refine Kept.setCell ?_ (by simp only [World.size_alloc, World.size_setCell, World.size_drew]; omega) _)) hb
  clear hk hb
  have X2 := X2'
  clear X2'
  have hk := hk'
  clear hk'
  have hz_w1 := hk.size
  have X2l := X2.lt
  have X2f := X2.free
  have X2l1 : w.heap.size + 1 < w1.heap.size + 1 := by omega
  have X2l2 : w.heap.size + 1 < w1.heap.size + 1 + 1 := by omega
  have X2l3 : w.heap.size + 1 < w1.heap.size + 1 + 1 + 1 := by omega
  have X20 := X2.cell 0 _ rfl
  have X21 := X2.cell 1 _ rfl
  have X22 := X2.cell 2 _ rfl
  have X23 := X2.cell 3 _ rfl
  go_wp2
  refine bodyPost_ret (v := wideV (add256 X Y)) (by simp [results, Try.results67, go_sem, X20, X21, X22, X23, X2l, Nat.ne_of_lt X2l, Nat.ne_of_gt X2l]) rfl ⟨rfl, ?_⟩
  refine Kept.below ?_; repeat (first | with_reducible exact hk | with_reducible exact Kept.refl _ | with_reducible refine Kept.alloc ?_ _ | with_reducible refine Kept.drew ?_ | with_reducible refine Kept.setCell ?_ (by simp only [World.size_alloc, World.size_setCell, World.size_drew]; omega) _)

attribute [local go_sem] sidx0 sidx1 in
set_option maxRecDepth 100000 in
set_option maxHeartbeats 8000000 in
theorem bothSum_w {x y L : Int} {A B P Q : Nat} (hA : W256 A) (hB : W256 B) (hP : W256 P) (hQ : W256 Q) (l0 : -1099511627776 ≤ L) (l1 : L ≤ 1099511627776) (e0 : levelI (expI x) A (expI y) B = L) (e1 : jamN A (L + 1 - expI x) = P) (e2 : jamN B (L + 1 - expI y) = Q) (w : World) :
    Calls Try.prog 66 #[termV x A, termV y B, .int .i64 1, .func (.func 67) #[] #[]] w fun e w' => e = .returned (termV (L + 1) (add256 P Q)) ∧ Below w.heap.size w w' := by
  have hk := Kept.refl w
  have hx := expI_range x
  have hy := expI_range y
  have HL := Lib.hid e0; have E1 := Lib.hid e1; have E2 := Lib.hid e2
  have w1_ : IntKind.i64.wrap (L + 1) = L + 1 := IntWalk.i64_in _ (by omega)
  have w2_ : IntKind.i64.wrap (L + 1 - expI x) = L + 1 - expI x := IntWalk.i64_in _ (by omega)
  have w3_ : IntKind.i64.wrap (L + 1 - expI y) = L + 1 - expI y := IntWalk.i64_in _ (by omega)
  clear e0 e1 e2
  go_enter Try.func66, Try.ntmps66
  go_wp2_with fail
  (with_reducible refine (calls_to (V := .int .i64 (L)) (level_any hA hB _) (by rw [HL.out])).mono ?_)
  rintro e w1 ⟨rfl, hb⟩
  have X1' : Box w1 (w.heap.size) #[.int .i64 (x), .int .u64 (limb 0 A), .int .u64 (limb 1 A), .int .u64 (limb 2 A), .int .u64 (limb 3 A)] := Box.call hb (by repeat (first | with_reducible assumption | with_reducible apply Box.set10 | with_reducible apply Box.set20 | with_reducible apply Box.set21 | with_reducible apply Box.set40 | with_reducible apply Box.set41 | with_reducible apply Box.set42 | with_reducible apply Box.set43 | with_reducible apply Box.set50 | with_reducible apply Box.set51 | with_reducible apply Box.set52 | with_reducible apply Box.set53 | with_reducible apply Box.set54 | with_reducible apply Box.set80 | with_reducible apply Box.set81 | with_reducible apply Box.set82 | with_reducible apply Box.set83 | with_reducible apply Box.set84 | with_reducible apply Box.set85 | with_reducible apply Box.set86 | with_reducible apply Box.set87 | with_reducible apply Box.drew | (with_reducible apply Box.newAt; (try simp only [World.size_alloc, World.size_setCell, World.size_drew]); done) | with_reducible apply Box.alloc | (with_reducible apply Box.other; case hne => ((try simp only [World.size_alloc, World.size_setCell, World.size_drew]); omega))))
  have X2' : Box w1 (w.heap.size + 1) #[.int .i64 (y), .int .u64 (limb 0 B), .int .u64 (limb 1 B), .int .u64 (limb 2 B), .int .u64 (limb 3 B)] := Box.call hb (by repeat (first | with_reducible assumption | with_reducible apply Box.set10 | with_reducible apply Box.set20 | with_reducible apply Box.set21 | with_reducible apply Box.set40 | with_reducible apply Box.set41 | with_reducible apply Box.set42 | with_reducible apply Box.set43 | with_reducible apply Box.set50 | with_reducible apply Box.set51 | with_reducible apply Box.set52 | with_reducible apply Box.set53 | with_reducible apply Box.set54 | with_reducible apply Box.set80 | with_reducible apply Box.set81 | with_reducible apply Box.set82 | with_reducible apply Box.set83 | with_reducible apply Box.set84 | with_reducible apply Box.set85 | with_reducible apply Box.set86 | with_reducible apply Box.set87 | with_reducible apply Box.drew | (with_reducible apply Box.newAt; (try simp only [World.size_alloc, World.size_setCell, World.size_drew]); done) | with_reducible apply Box.alloc | (with_reducible apply Box.other; case hne => ((try simp only [World.size_alloc, World.size_setCell, World.size_drew]); omega))))
  have X3' : Box w1 (w.heap.size + 1 + 1) #[.int .i64 0, .int .u64 0, .int .u64 0, .int .u64 0, .int .u64 0] := Box.call hb (by repeat (first | with_reducible assumption | with_reducible apply Box.set10 | with_reducible apply Box.set20 | with_reducible apply Box.set21 | with_reducible apply Box.set40 | with_reducible apply Box.set41 | with_reducible apply Box.set42 | with_reducible apply Box.set43 | with_reducible apply Box.set50 | with_reducible apply Box.set51 | with_reducible apply Box.set52 | with_reducible apply Box.set53 | with_reducible apply Box.set54 | with_reducible apply Box.set80 | with_reducible apply Box.set81 | with_reducible apply Box.set82 | with_reducible apply Box.set83 | with_reducible apply Box.set84 | with_reducible apply Box.set85 | with_reducible apply Box.set86 | with_reducible apply Box.set87 | with_reducible apply Box.drew | (with_reducible apply Box.newAt; (try simp only [World.size_alloc, World.size_setCell, World.size_drew]); done) | with_reducible apply Box.alloc | (with_reducible apply Box.other; case hne => ((try simp only [World.size_alloc, World.size_setCell, World.size_drew]); omega))))
  have hk' : Kept w.heap.size w w1 := Kept.step (by repeat (first | with_reducible exact hk | with_reducible exact Kept.refl _ | with_reducible refine Kept.alloc ?_ _ | with_reducible refine Kept.drew ?_ | with_reducible refine Kept.setCell ?_ (by simp only [World.size_alloc, World.size_setCell, World.size_drew]; omega) _)) hb
  clear hk hb
  have X1 := X1'
  clear X1'
  have X2 := X2'
  clear X2'
  have X3 := X3'
  clear X3'
  have hk := hk'
  clear hk'
  have hz_w1 := hk.size
  have X1l := X1.lt
  have X1f := X1.free
  have X1l1 : w.heap.size < w1.heap.size + 1 := by omega
  have X1l2 : w.heap.size < w1.heap.size + 1 + 1 := by omega
  have X1l3 : w.heap.size < w1.heap.size + 1 + 1 + 1 := by omega
  have X10 := X1.cell 0 _ rfl
  have X11 := X1.cell 1 _ rfl
  have X12 := X1.cell 2 _ rfl
  have X13 := X1.cell 3 _ rfl
  have X14 := X1.cell 4 _ rfl
  have X2l := X2.lt
  have X2f := X2.free
  have X2l1 : w.heap.size + 1 < w1.heap.size + 1 := by omega
  have X2l2 : w.heap.size + 1 < w1.heap.size + 1 + 1 := by omega
  have X2l3 : w.heap.size + 1 < w1.heap.size + 1 + 1 + 1 := by omega
  have X20 := X2.cell 0 _ rfl
  have X21 := X2.cell 1 _ rfl
  have X22 := X2.cell 2 _ rfl
  have X23 := X2.cell 3 _ rfl
  have X24 := X2.cell 4 _ rfl
  have X3l := X3.lt
  have X3f := X3.free
  have X3l1 : w.heap.size + 1 + 1 < w1.heap.size + 1 := by omega
  have X3l2 : w.heap.size + 1 + 1 < w1.heap.size + 1 + 1 := by omega
  have X3l3 : w.heap.size + 1 + 1 < w1.heap.size + 1 + 1 + 1 := by omega
  have X30 := X3.cell 0 _ rfl
  have X31 := X3.cell 1 _ rfl
  have X32 := X3.cell 2 _ rfl
  have X33 := X3.cell 3 _ rfl
  have X34 := X3.cell 4 _ rfl
  go_wp2
  refine wp_loop_rounds 3 ?_
  rw [rounds_succ]
  go_wp2
  refine wp_region_g 9 (fun W' => Kept w.heap.size w W' ∧ w1.heap.size + 1 + 1 ≤ W'.heap.size ∧ Box W' (w.heap.size + 1 + 1) #[.int .i64 0, .int .u64 0, .int .u64 0, .int .u64 0, .int .u64 0] ∧ Box W' (w1.heap.size) #[.int .u64 0, .int .u64 0, .int .u64 0, .int .u64 0, .int .u64 0, .int .u64 0, .int .u64 0, .int .u64 0] ∧ Box W' (w1.heap.size + 1) #[.int .i64 (x), .int .u64 (limb 0 A), .int .u64 (limb 1 A), .int .u64 (limb 2 A), .int .u64 (limb 3 A)]) (fun W' => Kept w.heap.size w W' ∧ w1.heap.size + 1 + 1 ≤ W'.heap.size ∧ Box W' (w.heap.size + 1 + 1) #[.int .i64 0, .int .u64 0, .int .u64 0, .int .u64 0, .int .u64 0] ∧ Box W' (w1.heap.size) #[.int .u64 0, .int .u64 0, .int .u64 0, .int .u64 0, .int .u64 0, .int .u64 0, .int .u64 0, .int .u64 0] ∧ Box W' (w1.heap.size + 1) #[.int .i64 (x), .int .u64 (limb 0 A), .int .u64 (limb 1 A), .int .u64 (limb 2 A), .int .u64 (limb 3 A)]) 1000 (w1.heap.size + 1 + 1) [.known (.int .i64 0), .known (.pointer (some ⟨w1.heap.size + 1, 1, none⟩)), .known (wideV A), .known (.int .i64 (L + 1)), .known (termV x A), .known (.int .i64 (expI x)), .known (.int .i64 (L + 1 - expI x)), .known (wideV P), .known (.pointer (some ⟨w1.heap.size, 0, none⟩))] (by kernel_rfl) (by kernel_rfl) (fun W W' h hb => ⟨h.1.step hb, Nat.le_trans (h.2.1) hb.size, Box.call hb (h.2.2.1), Box.call hb (h.2.2.2.1), Box.call hb (h.2.2.2.2)⟩) (fun W W' h hb => ⟨h.1.step hb, Nat.le_trans (h.2.1) hb.size, Box.call hb (h.2.2.1), Box.call hb (h.2.2.2.1), Box.call hb (h.2.2.2.2)⟩) (no_out (of_decide_eq_true (by kernel_rfl))) (.inl (by kernel_rfl)) (.inl (by kernel_rfl)) (fun _ h => h.2.1) (fun _ h => h.2.1) (⟨(by repeat (first | with_reducible exact hk | with_reducible exact Kept.refl _ | with_reducible refine Kept.alloc ?_ _ | with_reducible refine Kept.drew ?_ | with_reducible refine Kept.setCell ?_ (by simp only [World.size_alloc, World.size_setCell, World.size_drew]; omega) _)), (by (try simp only [World.size_alloc, World.size_setCell, World.size_drew]); omega), (by repeat (first | with_reducible assumption | with_reducible apply Box.set10 | with_reducible apply Box.set20 | with_reducible apply Box.set21 | with_reducible apply Box.set40 | with_reducible apply Box.set41 | with_reducible apply Box.set42 | with_reducible apply Box.set43 | with_reducible apply Box.set50 | with_reducible apply Box.set51 | with_reducible apply Box.set52 | with_reducible apply Box.set53 | with_reducible apply Box.set54 | with_reducible apply Box.set80 | with_reducible apply Box.set81 | with_reducible apply Box.set82 | with_reducible apply Box.set83 | with_reducible apply Box.set84 | with_reducible apply Box.set85 | with_reducible apply Box.set86 | with_reducible apply Box.set87 | with_reducible apply Box.drew | (with_reducible apply Box.newAt; (try simp only [World.size_alloc, World.size_setCell, World.size_drew]); done) | with_reducible apply Box.alloc | (with_reducible apply Box.other; case hne => ((try simp only [World.size_alloc, World.size_setCell, World.size_drew]); omega)))), (by repeat (first | with_reducible assumption | with_reducible apply Box.set10 | with_reducible apply Box.set20 | with_reducible apply Box.set21 | with_reducible apply Box.set40 | with_reducible apply Box.set41 | with_reducible apply Box.set42 | with_reducible apply Box.set43 | with_reducible apply Box.set50 | with_reducible apply Box.set51 | with_reducible apply Box.set52 | with_reducible apply Box.set53 | with_reducible apply Box.set54 | with_reducible apply Box.set80 | with_reducible apply Box.set81 | with_reducible apply Box.set82 | with_reducible apply Box.set83 | with_reducible apply Box.set84 | with_reducible apply Box.set85 | with_reducible apply Box.set86 | with_reducible apply Box.set87 | with_reducible apply Box.drew | (with_reducible apply Box.newAt; (try simp only [World.size_alloc, World.size_setCell, World.size_drew]); done) | with_reducible apply Box.alloc | (with_reducible apply Box.other; case hne => ((try simp only [World.size_alloc, World.size_setCell, World.size_drew]); omega)))), (by repeat (first | with_reducible assumption | with_reducible apply Box.set10 | with_reducible apply Box.set20 | with_reducible apply Box.set21 | with_reducible apply Box.set40 | with_reducible apply Box.set41 | with_reducible apply Box.set42 | with_reducible apply Box.set43 | with_reducible apply Box.set50 | with_reducible apply Box.set51 | with_reducible apply Box.set52 | with_reducible apply Box.set53 | with_reducible apply Box.set54 | with_reducible apply Box.set80 | with_reducible apply Box.set81 | with_reducible apply Box.set82 | with_reducible apply Box.set83 | with_reducible apply Box.set84 | with_reducible apply Box.set85 | with_reducible apply Box.set86 | with_reducible apply Box.set87 | with_reducible apply Box.drew | (with_reducible apply Box.newAt; (try simp only [World.size_alloc, World.size_setCell, World.size_drew]); done) | with_reducible apply Box.alloc | (with_reducible apply Box.other; case hne => ((try simp only [World.size_alloc, World.size_setCell, World.size_drew]); omega))))⟩) ?_
  clear hk
  clear X1 X1l1 X1l2 X1l3 X1f X10 X11 X12 X13 X14
  clear X2 X2l1 X2l2 X2l3 X2f X20 X21 X22 X23 X24
  clear X3 X3l1 X3l2 X3l3 X3f X30 X31 X32 X33 X34
  intro ρ
  simp only [List.take_succ_cons, List.take_zero, List.drop_succ_cons, List.drop_zero]
  refine ⟨?_, ?_⟩
  · as_aux_lemma =>
    intro y_ hS_ hO_ hD
    clear hS_ hO_ hD
    refine s_gen (V := .int .i64 0) [.int .i64 0] (by kernel_rfl) (by kernel_rfl) (by kernel_rfl) ?_
    intro r_ hr_
    have o0_ : r_ (.tmp 11) = .int .i64 0 := op_at hr_ 0 (by kernel_rfl) (by kernel_rfl)
    clear hr_
    go_simp; first | done | with_reducible rfl | omega
  simp only [Act.put, planVG, List.setIfInBounds_toArray, List.set_cons_zero, List.set_cons_succ, List.getElem?_cons_zero, List.getElem?_cons_succ]
  refine ⟨?_, ?_⟩
  · as_aux_lemma =>
    intro y_ hS_ hO_ hD
    clear hS_ hO_ hD
    refine s_gen (V := .pointer (some ⟨w1.heap.size + 1, 1, none⟩)) [.pointer (some ⟨w1.heap.size + 1, 0, none⟩)] (by kernel_rfl) (by kernel_rfl) (by kernel_rfl) ?_
    intro r_ hr_
    have o0_ : r_ (.tmp 12) = .pointer (some ⟨w1.heap.size + 1, 0, none⟩) := op_at hr_ 0 (by kernel_rfl) (by kernel_rfl)
    clear hr_
    go_simp; first | done | with_reducible rfl | omega
  simp only [Act.put, planVG, List.setIfInBounds_toArray, List.set_cons_zero, List.set_cons_succ, List.getElem?_cons_zero, List.getElem?_cons_succ]
  refine ⟨?_, ?_⟩
  · as_aux_lemma =>
    intro y_ hS_ hO_ hD
    have Q := ((hS_ (by rfl)).2.2.2.2).cell
    have q0 := Q 0 _ rfl
    have q1 := Q 1 _ rfl
    have q2 := Q 2 _ rfl
    have q3 := Q 3 _ rfl
    have q4 := Q 4 _ rfl
    clear Q hS_ hO_ hD
    refine s_gen (V := wideV A) [.pointer (some ⟨w1.heap.size + 1, 1, none⟩)] (by kernel_rfl) (by kernel_rfl) (by kernel_rfl) ?_
    intro r_ hr_
    have o0_ : r_ (.tmp 26) = .pointer (some ⟨w1.heap.size + 1, 1, none⟩) := op_at hr_ 0 (by kernel_rfl) (by kernel_rfl)
    clear hr_
    go_simp; first | done | with_reducible rfl
  simp only [Act.put, planVG, List.setIfInBounds_toArray, List.set_cons_zero, List.set_cons_succ, List.getElem?_cons_zero, List.getElem?_cons_succ]
  refine ⟨?_, ?_⟩
  · as_aux_lemma =>
    intro y_ hS_ hO_ hD
    clear hS_ hO_ hD
    refine s_gen (V := .int .i64 (L + 1)) [.int .i64 (L + 1)] (by kernel_rfl) (by kernel_rfl) (by kernel_rfl) ?_
    intro r_ hr_
    have o0_ : r_ (.tmp 9) = .int .i64 (L + 1) := op_at hr_ 0 (by kernel_rfl) (by kernel_rfl)
    clear hr_
    go_simp; first | done | with_reducible rfl | omega
  simp only [Act.put, planVG, List.setIfInBounds_toArray, List.set_cons_zero, List.set_cons_succ, List.getElem?_cons_zero, List.getElem?_cons_succ]
  refine ⟨?_, ?_⟩
  · as_aux_lemma =>
    intro y_ hS_ hO_ hD
    have Q := ((hS_ (by rfl)).2.2.2.2).cell
    have q0 := Q 0 _ rfl
    have q1 := Q 1 _ rfl
    have q2 := Q 2 _ rfl
    have q3 := Q 3 _ rfl
    have q4 := Q 4 _ rfl
    clear Q hS_ hO_ hD
    refine s_gen (V := termV x A) [.pointer (some ⟨w1.heap.size + 1, 0, none⟩)] (by kernel_rfl) (by kernel_rfl) (by kernel_rfl) ?_
    intro r_ hr_
    have o0_ : r_ (.tmp 12) = .pointer (some ⟨w1.heap.size + 1, 0, none⟩) := op_at hr_ 0 (by kernel_rfl) (by kernel_rfl)
    clear hr_
    go_simp; first | done | with_reducible rfl
  simp only [Act.put, planVG, List.setIfInBounds_toArray, List.set_cons_zero, List.set_cons_succ, List.getElem?_cons_zero, List.getElem?_cons_succ]
  refine ⟨?_, ?_⟩
  · as_aux_lemma =>
    intro y_ hS_ hO_ hD
    try clear hS
    clear hS_ hO_ hD
    refine s_gcall (V := .int .i64 (expI x)) [.func (.func 71) #[] #[], termV x A] ?_ ?_ (by kernel_rfl) (by kernel_rfl) (by kernel_rfl) ?_ ?_
    rotate_left 2
    · intro r_ hr_
      have o0_ : r_ (.func 71) = .func (.func 71) #[] #[] := op_at hr_ 0 (by kernel_rfl) (by kernel_rfl)
      have o1_ : r_ (.tmp 29) = termV x A := op_at hr_ 1 (by kernel_rfl) (by kernel_rfl)
      clear hr_
      go_simp; first | done | with_reducible rfl | (constructor <;> with_reducible rfl)
    · refine exp_any x A _
  simp only [Act.put, planVG, List.setIfInBounds_toArray, List.set_cons_zero, List.set_cons_succ, List.getElem?_cons_zero, List.getElem?_cons_succ]
  refine ⟨?_, ?_⟩
  · as_aux_lemma =>
    intro y_ hS_ hO_ hD
    clear hS_ hO_ hD
    refine s_gen (V := .int .i64 (L + 1 - expI x)) [.int .i64 (L + 1), .int .i64 (expI x)] (by kernel_rfl) (by kernel_rfl) (by kernel_rfl) ?_
    intro r_ hr_
    have o0_ : r_ (.tmp 28) = .int .i64 (L + 1) := op_at hr_ 0 (by kernel_rfl) (by kernel_rfl)
    have o1_ : r_ (.tmp 30) = .int .i64 (expI x) := op_at hr_ 1 (by kernel_rfl) (by kernel_rfl)
    clear hr_
    go_simp; first | done | with_reducible rfl | omega
  simp only [Act.put, planVG, List.setIfInBounds_toArray, List.set_cons_zero, List.set_cons_succ, List.getElem?_cons_zero, List.getElem?_cons_succ]
  refine ⟨?_, ?_⟩
  · as_aux_lemma =>
    intro y_ hS_ hO_ hD
    try clear hS
    clear hS_ hO_ hD
    refine s_gcall (V := wideV P) [.func (.func 81) #[] #[], wideV A, .int .i64 (L + 1 - expI x)] ?_ ?_ (by kernel_rfl) (by kernel_rfl) (by kernel_rfl) ?_ ?_
    rotate_left 2
    · intro r_ hr_
      have o0_ : r_ (.func 81) = .func (.func 81) #[] #[] := op_at hr_ 0 (by kernel_rfl) (by kernel_rfl)
      have o1_ : r_ (.tmp 27) = wideV A := op_at hr_ 1 (by kernel_rfl) (by kernel_rfl)
      have o2_ : r_ (.tmp 31) = .int .i64 (L + 1 - expI x) := op_at hr_ 2 (by kernel_rfl) (by kernel_rfl)
      clear hr_
      go_simp; first | done | with_reducible rfl | (constructor <;> with_reducible rfl)
    · refine calls_to (V := wideV P) (WideJam_at (IsWide.of hA) (L + 1 - expI x) (by omega) (by omega) _) (by rw [E1.out])
  simp only [Act.put, planVG, List.setIfInBounds_toArray, List.set_cons_zero, List.set_cons_succ, List.getElem?_cons_zero, List.getElem?_cons_succ]
  refine ⟨?_, ?_⟩
  · as_aux_lemma =>
    intro y_ hS_ hO_ hD
    clear hS_ hO_ hD
    refine s_gen (V := .pointer (some ⟨w1.heap.size, 0, none⟩)) [.pointer (some ⟨w1.heap.size, 0, none⟩), .int .i64 0] (by kernel_rfl) (by kernel_rfl) (by kernel_rfl) ?_
    intro r_ hr_
    have o0_ : r_ (.tmp 10) = .pointer (some ⟨w1.heap.size, 0, none⟩) := op_at hr_ 0 (by kernel_rfl) (by kernel_rfl)
    have o1_ : r_ (.tmp 25) = .int .i64 0 := op_at hr_ 1 (by kernel_rfl) (by kernel_rfl)
    clear hr_
    go_simp; first | done | with_reducible rfl | omega
  simp only [Act.put, planVG, List.setIfInBounds_toArray, List.set_cons_zero, List.set_cons_succ, List.getElem?_cons_zero, List.getElem?_cons_succ]
  as_aux_lemma =>
    intro w2 hS hF hD_
    change wpList _ _ _ _ _ _
    replace hS := sg_no (by decide) hS
    obtain ⟨hk, hZ2, X3, X4, X5⟩ := hS
    clear hF hD_
    clear ρ
    have hz_w2 := hk.size
    have X3l := X3.lt
    have X3f := X3.free
    have X3l1 : w.heap.size + 1 + 1 < w2.heap.size + 1 := by omega
    have X3l2 : w.heap.size + 1 + 1 < w2.heap.size + 1 + 1 := by omega
    have X3l3 : w.heap.size + 1 + 1 < w2.heap.size + 1 + 1 + 1 := by omega
    have X30 := X3.cell 0 _ rfl
    have X31 := X3.cell 1 _ rfl
    have X32 := X3.cell 2 _ rfl
    have X33 := X3.cell 3 _ rfl
    have X34 := X3.cell 4 _ rfl
    have X4l := X4.lt
    have X4f := X4.free
    have X4l1 : w1.heap.size < w2.heap.size + 1 := by omega
    have X4l2 : w1.heap.size < w2.heap.size + 1 + 1 := by omega
    have X4l3 : w1.heap.size < w2.heap.size + 1 + 1 + 1 := by omega
    have X40 := X4.cell 0 _ rfl
    have X41 := X4.cell 1 _ rfl
    have X42 := X4.cell 2 _ rfl
    have X43 := X4.cell 3 _ rfl
    have X44 := X4.cell 4 _ rfl
    have X45 := X4.cell 5 _ rfl
    have X46 := X4.cell 6 _ rfl
    have X47 := X4.cell 7 _ rfl
    have X5l := X5.lt
    have X5f := X5.free
    have X5l1 : w1.heap.size + 1 < w2.heap.size + 1 := by omega
    have X5l2 : w1.heap.size + 1 < w2.heap.size + 1 + 1 := by omega
    have X5l3 : w1.heap.size + 1 < w2.heap.size + 1 + 1 + 1 := by omega
    have X50 := X5.cell 0 _ rfl
    have X51 := X5.cell 1 _ rfl
    have X52 := X5.cell 2 _ rfl
    have X53 := X5.cell 3 _ rfl
    have X54 := X5.cell 4 _ rfl
    go_wp2
    rw [rounds_succ]
    go_wp2
    refine wp_region_g 9 (fun W' => Kept w.heap.size w W' ∧ w2.heap.size + 1 ≤ W'.heap.size ∧ Box W' (w.heap.size + 1 + 1) #[.int .i64 0, .int .u64 0, .int .u64 0, .int .u64 0, .int .u64 0] ∧ Box W' (w1.heap.size) #[.int .u64 (limb 0 P), .int .u64 (limb 1 P), .int .u64 (limb 2 P), .int .u64 (limb 3 P), .int .u64 0, .int .u64 0, .int .u64 0, .int .u64 0] ∧ Box W' (w2.heap.size) #[.int .i64 (y), .int .u64 (limb 0 B), .int .u64 (limb 1 B), .int .u64 (limb 2 B), .int .u64 (limb 3 B)]) (fun W' => Kept w.heap.size w W' ∧ w2.heap.size + 1 ≤ W'.heap.size ∧ Box W' (w.heap.size + 1 + 1) #[.int .i64 0, .int .u64 0, .int .u64 0, .int .u64 0, .int .u64 0] ∧ Box W' (w1.heap.size) #[.int .u64 (limb 0 P), .int .u64 (limb 1 P), .int .u64 (limb 2 P), .int .u64 (limb 3 P), .int .u64 0, .int .u64 0, .int .u64 0, .int .u64 0] ∧ Box W' (w2.heap.size) #[.int .i64 (y), .int .u64 (limb 0 B), .int .u64 (limb 1 B), .int .u64 (limb 2 B), .int .u64 (limb 3 B)]) 1000 (w2.heap.size + 1) [.known (.int .i64 1), .known (.pointer (some ⟨w2.heap.size, 1, none⟩)), .known (wideV B), .known (.int .i64 (L + 1)), .known (termV y B), .known (.int .i64 (expI y)), .known (.int .i64 (L + 1 - expI y)), .known (wideV Q), .known (.pointer (some ⟨w1.heap.size, 4, none⟩))] (by kernel_rfl) (by kernel_rfl) (fun W W' h hb => ⟨h.1.step hb, Nat.le_trans (h.2.1) hb.size, Box.call hb (h.2.2.1), Box.call hb (h.2.2.2.1), Box.call hb (h.2.2.2.2)⟩) (fun W W' h hb => ⟨h.1.step hb, Nat.le_trans (h.2.1) hb.size, Box.call hb (h.2.2.1), Box.call hb (h.2.2.2.1), Box.call hb (h.2.2.2.2)⟩) (no_out (of_decide_eq_true (by kernel_rfl))) (.inl (by kernel_rfl)) (.inl (by kernel_rfl)) (fun _ h => h.2.1) (fun _ h => h.2.1) (⟨(by repeat (first | with_reducible exact hk | with_reducible exact Kept.refl _ | with_reducible refine Kept.alloc ?_ _ | with_reducible refine Kept.drew ?_ | with_reducible refine Kept.setCell ?_ (by simp only [World.size_alloc, World.size_setCell, World.size_drew]; omega) _)), (by (try simp only [World.size_alloc, World.size_setCell, World.size_drew]); omega), (by repeat (first | with_reducible assumption | with_reducible apply Box.set10 | with_reducible apply Box.set20 | with_reducible apply Box.set21 | with_reducible apply Box.set40 | with_reducible apply Box.set41 | with_reducible apply Box.set42 | with_reducible apply Box.set43 | with_reducible apply Box.set50 | with_reducible apply Box.set51 | with_reducible apply Box.set52 | with_reducible apply Box.set53 | with_reducible apply Box.set54 | with_reducible apply Box.set80 | with_reducible apply Box.set81 | with_reducible apply Box.set82 | with_reducible apply Box.set83 | with_reducible apply Box.set84 | with_reducible apply Box.set85 | with_reducible apply Box.set86 | with_reducible apply Box.set87 | with_reducible apply Box.drew | (with_reducible apply Box.newAt; (try simp only [World.size_alloc, World.size_setCell, World.size_drew]); done) | with_reducible apply Box.alloc | (with_reducible apply Box.other; case hne => ((try simp only [World.size_alloc, World.size_setCell, World.size_drew]); omega)))), (by repeat (first | with_reducible assumption | with_reducible apply Box.set10 | with_reducible apply Box.set20 | with_reducible apply Box.set21 | with_reducible apply Box.set40 | with_reducible apply Box.set41 | with_reducible apply Box.set42 | with_reducible apply Box.set43 | with_reducible apply Box.set50 | with_reducible apply Box.set51 | with_reducible apply Box.set52 | with_reducible apply Box.set53 | with_reducible apply Box.set54 | with_reducible apply Box.set80 | with_reducible apply Box.set81 | with_reducible apply Box.set82 | with_reducible apply Box.set83 | with_reducible apply Box.set84 | with_reducible apply Box.set85 | with_reducible apply Box.set86 | with_reducible apply Box.set87 | with_reducible apply Box.drew | (with_reducible apply Box.newAt; (try simp only [World.size_alloc, World.size_setCell, World.size_drew]); done) | with_reducible apply Box.alloc | (with_reducible apply Box.other; case hne => ((try simp only [World.size_alloc, World.size_setCell, World.size_drew]); omega)))), (by repeat (first | with_reducible assumption | with_reducible apply Box.set10 | with_reducible apply Box.set20 | with_reducible apply Box.set21 | with_reducible apply Box.set40 | with_reducible apply Box.set41 | with_reducible apply Box.set42 | with_reducible apply Box.set43 | with_reducible apply Box.set50 | with_reducible apply Box.set51 | with_reducible apply Box.set52 | with_reducible apply Box.set53 | with_reducible apply Box.set54 | with_reducible apply Box.set80 | with_reducible apply Box.set81 | with_reducible apply Box.set82 | with_reducible apply Box.set83 | with_reducible apply Box.set84 | with_reducible apply Box.set85 | with_reducible apply Box.set86 | with_reducible apply Box.set87 | with_reducible apply Box.drew | (with_reducible apply Box.newAt; (try simp only [World.size_alloc, World.size_setCell, World.size_drew]); done) | with_reducible apply Box.alloc | (with_reducible apply Box.other; case hne => ((try simp only [World.size_alloc, World.size_setCell, World.size_drew]); omega))))⟩) ?_
    clear hk
    clear X3 X3l1 X3l2 X3l3 X3f X30 X31 X32 X33 X34
    clear X4 X4l1 X4l2 X4l3 X4f X40 X41 X42 X43 X44 X45 X46 X47
    clear X5 X5l1 X5l2 X5l3 X5f X50 X51 X52 X53 X54
    intro ρ
    simp only [List.take_succ_cons, List.take_zero, List.drop_succ_cons, List.drop_zero]
    refine ⟨?_, ?_⟩
    · as_aux_lemma =>
      intro y_ hS_ hO_ hD
      clear hS_ hO_ hD
      refine s_gen (V := .int .i64 1) [.int .i64 1] (by kernel_rfl) (by kernel_rfl) (by kernel_rfl) ?_
      intro r_ hr_
      have o0_ : r_ (.tmp 11) = .int .i64 1 := op_at hr_ 0 (by kernel_rfl) (by kernel_rfl)
      clear hr_
      go_simp; first | done | with_reducible rfl | omega
    simp only [Act.put, planVG, List.setIfInBounds_toArray, List.set_cons_zero, List.set_cons_succ, List.getElem?_cons_zero, List.getElem?_cons_succ]
    refine ⟨?_, ?_⟩
    · as_aux_lemma =>
      intro y_ hS_ hO_ hD
      clear hS_ hO_ hD
      refine s_gen (V := .pointer (some ⟨w2.heap.size, 1, none⟩)) [.pointer (some ⟨w2.heap.size, 0, none⟩)] (by kernel_rfl) (by kernel_rfl) (by kernel_rfl) ?_
      intro r_ hr_
      have o0_ : r_ (.tmp 12) = .pointer (some ⟨w2.heap.size, 0, none⟩) := op_at hr_ 0 (by kernel_rfl) (by kernel_rfl)
      clear hr_
      go_simp; first | done | with_reducible rfl | omega
    simp only [Act.put, planVG, List.setIfInBounds_toArray, List.set_cons_zero, List.set_cons_succ, List.getElem?_cons_zero, List.getElem?_cons_succ]
    refine ⟨?_, ?_⟩
    · as_aux_lemma =>
      intro y_ hS_ hO_ hD
      have Q := ((hS_ (by rfl)).2.2.2.2).cell
      have q0 := Q 0 _ rfl
      have q1 := Q 1 _ rfl
      have q2 := Q 2 _ rfl
      have q3 := Q 3 _ rfl
      have q4 := Q 4 _ rfl
      clear Q hS_ hO_ hD
      refine s_gen (V := wideV B) [.pointer (some ⟨w2.heap.size, 1, none⟩)] (by kernel_rfl) (by kernel_rfl) (by kernel_rfl) ?_
      intro r_ hr_
      have o0_ : r_ (.tmp 26) = .pointer (some ⟨w2.heap.size, 1, none⟩) := op_at hr_ 0 (by kernel_rfl) (by kernel_rfl)
      clear hr_
      go_simp; first | done | with_reducible rfl
    simp only [Act.put, planVG, List.setIfInBounds_toArray, List.set_cons_zero, List.set_cons_succ, List.getElem?_cons_zero, List.getElem?_cons_succ]
    refine ⟨?_, ?_⟩
    · as_aux_lemma =>
      intro y_ hS_ hO_ hD
      clear hS_ hO_ hD
      refine s_gen (V := .int .i64 (L + 1)) [.int .i64 (L + 1)] (by kernel_rfl) (by kernel_rfl) (by kernel_rfl) ?_
      intro r_ hr_
      have o0_ : r_ (.tmp 9) = .int .i64 (L + 1) := op_at hr_ 0 (by kernel_rfl) (by kernel_rfl)
      clear hr_
      go_simp; first | done | with_reducible rfl | omega
    simp only [Act.put, planVG, List.setIfInBounds_toArray, List.set_cons_zero, List.set_cons_succ, List.getElem?_cons_zero, List.getElem?_cons_succ]
    refine ⟨?_, ?_⟩
    · as_aux_lemma =>
      intro y_ hS_ hO_ hD
      have Q := ((hS_ (by rfl)).2.2.2.2).cell
      have q0 := Q 0 _ rfl
      have q1 := Q 1 _ rfl
      have q2 := Q 2 _ rfl
      have q3 := Q 3 _ rfl
      have q4 := Q 4 _ rfl
      clear Q hS_ hO_ hD
      refine s_gen (V := termV y B) [.pointer (some ⟨w2.heap.size, 0, none⟩)] (by kernel_rfl) (by kernel_rfl) (by kernel_rfl) ?_
      intro r_ hr_
      have o0_ : r_ (.tmp 12) = .pointer (some ⟨w2.heap.size, 0, none⟩) := op_at hr_ 0 (by kernel_rfl) (by kernel_rfl)
      clear hr_
      go_simp; first | done | with_reducible rfl
    simp only [Act.put, planVG, List.setIfInBounds_toArray, List.set_cons_zero, List.set_cons_succ, List.getElem?_cons_zero, List.getElem?_cons_succ]
    refine ⟨?_, ?_⟩
    · as_aux_lemma =>
      intro y_ hS_ hO_ hD
      try clear hS
      clear hS_ hO_ hD
      refine s_gcall (V := .int .i64 (expI y)) [.func (.func 71) #[] #[], termV y B] ?_ ?_ (by kernel_rfl) (by kernel_rfl) (by kernel_rfl) ?_ ?_
      rotate_left 2
      · intro r_ hr_
        have o0_ : r_ (.func 71) = .func (.func 71) #[] #[] := op_at hr_ 0 (by kernel_rfl) (by kernel_rfl)
        have o1_ : r_ (.tmp 29) = termV y B := op_at hr_ 1 (by kernel_rfl) (by kernel_rfl)
        clear hr_
        go_simp; first | done | with_reducible rfl | (constructor <;> with_reducible rfl)
      · refine exp_any y B _
    simp only [Act.put, planVG, List.setIfInBounds_toArray, List.set_cons_zero, List.set_cons_succ, List.getElem?_cons_zero, List.getElem?_cons_succ]
    refine ⟨?_, ?_⟩
    · as_aux_lemma =>
      intro y_ hS_ hO_ hD
      clear hS_ hO_ hD
      refine s_gen (V := .int .i64 (L + 1 - expI y)) [.int .i64 (L + 1), .int .i64 (expI y)] (by kernel_rfl) (by kernel_rfl) (by kernel_rfl) ?_
      intro r_ hr_
      have o0_ : r_ (.tmp 28) = .int .i64 (L + 1) := op_at hr_ 0 (by kernel_rfl) (by kernel_rfl)
      have o1_ : r_ (.tmp 30) = .int .i64 (expI y) := op_at hr_ 1 (by kernel_rfl) (by kernel_rfl)
      clear hr_
      go_simp; first | done | with_reducible rfl | omega
    simp only [Act.put, planVG, List.setIfInBounds_toArray, List.set_cons_zero, List.set_cons_succ, List.getElem?_cons_zero, List.getElem?_cons_succ]
    refine ⟨?_, ?_⟩
    · as_aux_lemma =>
      intro y_ hS_ hO_ hD
      try clear hS
      clear hS_ hO_ hD
      refine s_gcall (V := wideV Q) [.func (.func 81) #[] #[], wideV B, .int .i64 (L + 1 - expI y)] ?_ ?_ (by kernel_rfl) (by kernel_rfl) (by kernel_rfl) ?_ ?_
      rotate_left 2
      · intro r_ hr_
        have o0_ : r_ (.func 81) = .func (.func 81) #[] #[] := op_at hr_ 0 (by kernel_rfl) (by kernel_rfl)
        have o1_ : r_ (.tmp 27) = wideV B := op_at hr_ 1 (by kernel_rfl) (by kernel_rfl)
        have o2_ : r_ (.tmp 31) = .int .i64 (L + 1 - expI y) := op_at hr_ 2 (by kernel_rfl) (by kernel_rfl)
        clear hr_
        go_simp; first | done | with_reducible rfl | (constructor <;> with_reducible rfl)
      · refine calls_to (V := wideV Q) (WideJam_at (IsWide.of hB) (L + 1 - expI y) (by omega) (by omega) _) (by rw [E2.out])
    simp only [Act.put, planVG, List.setIfInBounds_toArray, List.set_cons_zero, List.set_cons_succ, List.getElem?_cons_zero, List.getElem?_cons_succ]
    refine ⟨?_, ?_⟩
    · as_aux_lemma =>
      intro y_ hS_ hO_ hD
      clear hS_ hO_ hD
      refine s_gen (V := .pointer (some ⟨w1.heap.size, 4, none⟩)) [.pointer (some ⟨w1.heap.size, 0, none⟩), .int .i64 1] (by kernel_rfl) (by kernel_rfl) (by kernel_rfl) ?_
      intro r_ hr_
      have o0_ : r_ (.tmp 10) = .pointer (some ⟨w1.heap.size, 0, none⟩) := op_at hr_ 0 (by kernel_rfl) (by kernel_rfl)
      have o1_ : r_ (.tmp 25) = .int .i64 1 := op_at hr_ 1 (by kernel_rfl) (by kernel_rfl)
      clear hr_
      go_simp; first | done | with_reducible rfl | omega
    simp only [Act.put, planVG, List.setIfInBounds_toArray, List.set_cons_zero, List.set_cons_succ, List.getElem?_cons_zero, List.getElem?_cons_succ]
    as_aux_lemma =>
      intro w3 hS hF hD_
      change wpList _ _ _ _ _ _
      replace hS := sg_no (by decide) hS
      obtain ⟨hk, hZ3, X3, X4, X6⟩ := hS
      clear hF hD_
      clear ρ
      have hz_w3 := hk.size
      have X3l := X3.lt
      have X3f := X3.free
      have X3l1 : w.heap.size + 1 + 1 < w3.heap.size + 1 := by omega
      have X3l2 : w.heap.size + 1 + 1 < w3.heap.size + 1 + 1 := by omega
      have X3l3 : w.heap.size + 1 + 1 < w3.heap.size + 1 + 1 + 1 := by omega
      have X30 := X3.cell 0 _ rfl
      have X31 := X3.cell 1 _ rfl
      have X32 := X3.cell 2 _ rfl
      have X33 := X3.cell 3 _ rfl
      have X34 := X3.cell 4 _ rfl
      have X4l := X4.lt
      have X4f := X4.free
      have X4l1 : w1.heap.size < w3.heap.size + 1 := by omega
      have X4l2 : w1.heap.size < w3.heap.size + 1 + 1 := by omega
      have X4l3 : w1.heap.size < w3.heap.size + 1 + 1 + 1 := by omega
      have X40 := X4.cell 0 _ rfl
      have X41 := X4.cell 1 _ rfl
      have X42 := X4.cell 2 _ rfl
      have X43 := X4.cell 3 _ rfl
      have X44 := X4.cell 4 _ rfl
      have X45 := X4.cell 5 _ rfl
      have X46 := X4.cell 6 _ rfl
      have X47 := X4.cell 7 _ rfl
      have X6l := X6.lt
      have X6f := X6.free
      have X6l1 : w2.heap.size < w3.heap.size + 1 := by omega
      have X6l2 : w2.heap.size < w3.heap.size + 1 + 1 := by omega
      have X6l3 : w2.heap.size < w3.heap.size + 1 + 1 + 1 := by omega
      have X60 := X6.cell 0 _ rfl
      have X61 := X6.cell 1 _ rfl
      have X62 := X6.cell 2 _ rfl
      have X63 := X6.cell 3 _ rfl
      have X64 := X6.cell 4 _ rfl
      go_wp2
      rw [rounds_succ]
      go_wp2_with fail
      (with_reducible refine (Sum1_any hP hQ _).mono ?_)
      rintro e w4 ⟨rfl, hb⟩
      have X3' : Box w4 (w.heap.size + 1 + 1) #[.int .i64 0, .int .u64 0, .int .u64 0, .int .u64 0, .int .u64 0] := Box.call hb (by repeat (first | with_reducible assumption | with_reducible apply Box.set10 | with_reducible apply Box.set20 | with_reducible apply Box.set21 | with_reducible apply Box.set40 | with_reducible apply Box.set41 | with_reducible apply Box.set42 | with_reducible apply Box.set43 | with_reducible apply Box.set50 | with_reducible apply Box.set51 | with_reducible apply Box.set52 | with_reducible apply Box.set53 | with_reducible apply Box.set54 | with_reducible apply Box.set80 | with_reducible apply Box.set81 | with_reducible apply Box.set82 | with_reducible apply Box.set83 | with_reducible apply Box.set84 | with_reducible apply Box.set85 | with_reducible apply Box.set86 | with_reducible apply Box.set87 | with_reducible apply Box.drew | (with_reducible apply Box.newAt; (try simp only [World.size_alloc, World.size_setCell, World.size_drew]); done) | with_reducible apply Box.alloc | (with_reducible apply Box.other; case hne => ((try simp only [World.size_alloc, World.size_setCell, World.size_drew]); omega))))
      have hk' : Kept w.heap.size w w4 := Kept.step (by repeat (first | with_reducible exact hk | with_reducible exact Kept.refl _ | with_reducible refine Kept.alloc ?_ _ | with_reducible refine Kept.drew ?_ | with_reducible refine Kept.setCell ?_ (by simp only [World.size_alloc, World.size_setCell, World.size_drew]; omega) _)) hb
      clear hk hb
      clear X3 X3l1 X3l2 X3l3 X3f X30 X31 X32 X33 X34
      clear X4 X4l1 X4l2 X4l3 X4f X40 X41 X42 X43 X44 X45 X46 X47
      clear X6 X6l1 X6l2 X6l3 X6f X60 X61 X62 X63 X64
      have X3 := X3'
      clear X3'
      have hk := hk'
      clear hk'
      have hz_w4 := hk.size
      have X3l := X3.lt
      have X3f := X3.free
      have X3l1 : w.heap.size + 1 + 1 < w4.heap.size + 1 := by omega
      have X3l2 : w.heap.size + 1 + 1 < w4.heap.size + 1 + 1 := by omega
      have X3l3 : w.heap.size + 1 + 1 < w4.heap.size + 1 + 1 + 1 := by omega
      have X30 := X3.cell 0 _ rfl
      have X31 := X3.cell 1 _ rfl
      have X32 := X3.cell 2 _ rfl
      have X33 := X3.cell 3 _ rfl
      have X34 := X3.cell 4 _ rfl
      go_wp2
      refine bodyPost_ret (v := termV (L + 1) (add256 P Q)) (by simp [results, Try.results66, go_sem, X30, X31, X32, X33, X34, X3l, Nat.ne_of_lt X3l, Nat.ne_of_gt X3l]) rfl ⟨rfl, ?_⟩
      refine Kept.below ?_; repeat (first | with_reducible exact hk | with_reducible exact Kept.refl _ | with_reducible refine Kept.alloc ?_ _ | with_reducible refine Kept.drew ?_ | with_reducible refine Kept.setCell ?_ (by simp only [World.size_alloc, World.size_setCell, World.size_drew]; omega) _)

theorem bothSum_any {x y : Int} {A B : Nat} (hA : W256 A) (hB : W256 B) (w : World) :
    Calls Try.prog 66 #[termV x A, termV y B, .int .i64 1, .func (.func 67) #[] #[]] w fun e w' => e = .returned (termV (levelI (expI x) A (expI y) B + 1) (add256 (sideI (expI x) A (levelI (expI x) A (expI y) B + 1)) (sideI (expI y) B (levelI (expI x) A (expI y) B + 1)))) ∧ Below w.heap.size w w' := by
  have hr := level_range A B (expI_range x) (expI_range y)
  exact bothSum_w hA hB (side_w hA _ _) (side_w hB _ _) hr.1 hr.2 rfl rfl rfl w
set_option maxRecDepth 100000 in
set_option maxHeartbeats 8000000 in
theorem magSum_any {x y : Int} {A B : Nat} (hA : W256 A) (hB : W256 B) (w : World) :
    Calls Try.prog 47 #[termV x A, termV y B] w fun e w' => e = .returned (termV (levelI (expI x) A (expI y) B + 1) (add256 (sideI (expI x) A (levelI (expI x) A (expI y) B + 1)) (sideI (expI y) B (levelI (expI x) A (expI y) B + 1)))) ∧ Below w.heap.size w w' := by
  have hk := Kept.refl w
  go_enter Try.func47, Try.ntmps47
  go_wp2_with fail
  (with_reducible refine (bothSum_any hA hB _).mono ?_)
  rintro e w1 ⟨rfl, hb⟩
  have X3' : Box w1 (w.heap.size + 1 + 1) #[.int .i64 0, .int .u64 0, .int .u64 0, .int .u64 0, .int .u64 0] := Box.call hb (by repeat (first | with_reducible assumption | with_reducible apply Box.set10 | with_reducible apply Box.set20 | with_reducible apply Box.set21 | with_reducible apply Box.set40 | with_reducible apply Box.set41 | with_reducible apply Box.set42 | with_reducible apply Box.set43 | with_reducible apply Box.set50 | with_reducible apply Box.set51 | with_reducible apply Box.set52 | with_reducible apply Box.set53 | with_reducible apply Box.set54 | with_reducible apply Box.set80 | with_reducible apply Box.set81 | with_reducible apply Box.set82 | with_reducible apply Box.set83 | with_reducible apply Box.set84 | with_reducible apply Box.set85 | with_reducible apply Box.set86 | with_reducible apply Box.set87 | with_reducible apply Box.drew | (with_reducible apply Box.newAt; (try simp only [World.size_alloc, World.size_setCell, World.size_drew]); done) | with_reducible apply Box.alloc | (with_reducible apply Box.other; case hne => ((try simp only [World.size_alloc, World.size_setCell, World.size_drew]); omega))))
  have hk' : Kept w.heap.size w w1 := Kept.step (by repeat (first | with_reducible exact hk | with_reducible exact Kept.refl _ | with_reducible refine Kept.alloc ?_ _ | with_reducible refine Kept.drew ?_ | with_reducible refine Kept.setCell ?_ (by simp only [World.size_alloc, World.size_setCell, World.size_drew]; omega) _)) hb
  clear hk hb
  have X3 := X3'
  clear X3'
  have hk := hk'
  clear hk'
  have hz_w1 := hk.size
  have X3l := X3.lt
  have X3f := X3.free
  have X3l1 : w.heap.size + 1 + 1 < w1.heap.size + 1 := by omega
  have X3l2 : w.heap.size + 1 + 1 < w1.heap.size + 1 + 1 := by omega
  have X3l3 : w.heap.size + 1 + 1 < w1.heap.size + 1 + 1 + 1 := by omega
  have X30 := X3.cell 0 _ rfl
  have X31 := X3.cell 1 _ rfl
  have X32 := X3.cell 2 _ rfl
  have X33 := X3.cell 3 _ rfl
  have X34 := X3.cell 4 _ rfl
  go_wp2
  refine bodyPost_ret (v := termV (levelI (expI x) A (expI y) B + 1) (add256 (sideI (expI x) A (levelI (expI x) A (expI y) B + 1)) (sideI (expI y) B (levelI (expI x) A (expI y) B + 1)))) (by simp [results, Try.results47, go_sem, X30, X31, X32, X33, X34, X3l, Nat.ne_of_lt X3l, Nat.ne_of_gt X3l]) rfl ⟨rfl, ?_⟩
  refine Kept.below ?_; repeat (first | with_reducible exact hk | with_reducible exact Kept.refl _ | with_reducible refine Kept.alloc ?_ _ | with_reducible refine Kept.drew ?_ | with_reducible refine Kept.setCell ?_ (by simp only [World.size_alloc, World.size_setCell, World.size_drew]; omega) _)

end Go.Proofs.Ythpmbfdbknikcaa
