/- The walk of MagScale. -/
import Derived.Test.YthpmbfdbknikcaaLaw17
import Derived.Test.YthpmbfdbknikcaaPutOne
set_option linter.unusedVariables false
set_option linter.unusedSimpArgs false
namespace Go.Proofs.Ythpmbfdbknikcaa
open Go.RowKit

set_option maxRecDepth 100000 in
set_option maxHeartbeats 8000000 in
theorem MagScale_0 {x0 x1 x y0 y1 y d l m c : Int} {A B S T : Nat} (hA : W256 A) (hB : W256 B) (hSs : W256 S) (hTt : W256 T) (m1 : (if 1073741824 < x0 then 1073741824 else x0) = x1) (m2 : (if -1073741824 < x1 then x1 else -1073741824) = x) (m3 : (if 1073741824 < y0 then 1073741824 else y0) = y1) (m4 : (if -1073741824 < y1 then y1 else -1073741824) = y) (rx : -1073741824 ≤ x ∧ x ≤ 1073741824) (ry : -1073741824 ≤ y ∧ y ≤ 1073741824) (rd : -32768 ≤ d ∧ d ≤ 32767) (rl : -1099511627777 ≤ l ∧ l ≤ 1099511627777) (rm : -1099511627777 ≤ m ∧ m ≤ 1099511627777) (h1 : ∀ w, Calls Try.prog 47 #[termV x A, termV y B] w fun e w' => e = .returned (termV l S) ∧ Below w.heap.size w w') (h2 : ∀ w, Calls Try.prog 47 #[termV (x + d) A, termV (y + d) B] w fun e w' => e = .returned (termV (l + d) S) ∧ Below w.heap.size w w') (h3 : ∀ w, Calls Try.prog 49 #[termV x A, termV y B] w fun e w' => e = .returned (.tuple #[termV m T, .bool false]) ∧ Below w.heap.size w w') (h4 : ∀ w, Calls Try.prog 49 #[termV (x + d) A, termV (y + d) B] w fun e w' => e = .returned (.tuple #[termV (m + d) T, .bool false]) ∧ Below w.heap.size w w') (h5 : ∀ w, Calls Try.prog 51 #[termV x A, termV y B] w fun e w' => e = .returned (.int .i64 c) ∧ Below w.heap.size w w') (h6 : ∀ w, Calls Try.prog 51 #[termV (x + d) A, termV (y + d) B] w fun e w' => e = .returned (.int .i64 c) ∧ Below w.heap.size w w') (w : World) :
    Calls Try.prog 10 #[termV x0 A, termV y0 B, .int .i16 d] w fun e w' => e = .returned (.bool true) ∧ Below w.heap.size w w' := by
  have hk := Kept.refl w
  have H1 := Lib.hid h1
  have H2 := Lib.hid h2
  have H3 := Lib.hid h3
  have H4 := Lib.hid h4
  have H5 := Lib.hid h5
  have H6 := Lib.hid h6
  have w0_ : IntKind.i64.wrap d = d := IntWalk.i64_in _ (by omega)
  have w1_ : IntKind.i64.wrap (x + d) = x + d := IntWalk.i64_in _ (by omega)
  have w2_ : IntKind.i64.wrap (y + d) = y + d := IntWalk.i64_in _ (by omega)
  have w3_ : IntKind.i64.wrap (l + d) = l + d := IntWalk.i64_in _ (by omega)
  have w4_ : IntKind.i64.wrap (m + d) = m + d := IntWalk.i64_in _ (by omega)
  clear h1 h2 h3 h4 h5 h6
  go_enter Try.func10, Try.ntmps10
  go_wp2
  refine wp_region_g 10 (fun W' => Kept w.heap.size w W' ∧ w.heap.size + 1 + 1 ≤ W'.heap.size ∧ Box W' (w.heap.size) #[.int .i64 (x0), .int .u64 (limb 0 A), .int .u64 (limb 1 A), .int .u64 (limb 2 A), .int .u64 (limb 3 A)] ∧ Box W' (w.heap.size + 1) #[.int .i64 (y0), .int .u64 (limb 0 B), .int .u64 (limb 1 B), .int .u64 (limb 2 B), .int .u64 (limb 3 B)]) (fun W' => Kept w.heap.size w W' ∧ w.heap.size + 1 + 1 ≤ W'.heap.size ∧ Box W' (w.heap.size) #[.int .i64 (x), .int .u64 (limb 0 A), .int .u64 (limb 1 A), .int .u64 (limb 2 A), .int .u64 (limb 3 A)] ∧ Box W' (w.heap.size + 1) #[.int .i64 (y0), .int .u64 (limb 0 B), .int .u64 (limb 1 B), .int .u64 (limb 2 B), .int .u64 (limb 3 B)]) 9 (w.heap.size + 1 + 1) [.known (.pointer (some ⟨w.heap.size, 0, none⟩)), .known (.int .i64 (x0)), .known (.int .i64 (x1)), .known (.int .i64 (x)), .known (.pointer (some ⟨w.heap.size + 1, 0, none⟩)), .known (.int .i64 (y0)), .known (.int .i64 (y1)), .known (.int .i64 (y)), .known (.pointer (some ⟨w.heap.size, 0, none⟩)), .out (w.heap.size) [.int .i64 (x), .int .u64 (limb 0 A), .int .u64 (limb 1 A), .int .u64 (limb 2 A), .int .u64 (limb 3 A)]] (by kernel_rfl) (by kernel_rfl) (fun W W' h hb => ⟨h.1.step hb, Nat.le_trans (h.2.1) hb.size, Box.call hb (h.2.2.1), Box.call hb (h.2.2.2)⟩) (fun W W' h hb => ⟨h.1.step hb, Nat.le_trans (h.2.1) hb.size, Box.call hb (h.2.2.1), Box.call hb (h.2.2.2)⟩) (fun b V e => by
    obtain ⟨rfl, rfl⟩ : w.heap.size = b ∧ [.int .i64 (x), .int .u64 (limb 0 A), .int .u64 (limb 1 A), .int .u64 (limb 2 A), .int .u64 (limb 3 A)] = V := by injection e with e; injection e with e1 e2; exact ⟨e1, e2⟩
    exact ⟨by omega, fun w' h => ⟨(by simp only [putCells]; exact (((((h.1).setCell (p := ⟨w.heap.size, 0, none⟩) (by simp only []; omega) _).setCell (p := ⟨w.heap.size, 1, none⟩) (by simp only []; omega) _).setCell (p := ⟨w.heap.size, 2, none⟩) (by simp only []; omega) _).setCell (p := ⟨w.heap.size, 3, none⟩) (by simp only []; omega) _).setCell (p := ⟨w.heap.size, 4, none⟩) (by simp only []; omega) _), (by rw [putCells_size]; exact h.2.1), (by simp only [putCells]; with_reducible apply Box.set54; with_reducible apply Box.set53; with_reducible apply Box.set52; with_reducible apply Box.set51; with_reducible apply Box.set50; exact h.2.2.1), (by simp only [putCells]; exact (((((h.2.2.2).other (by omega)).other (by omega)).other (by omega)).other (by omega)).other (by omega))⟩⟩) (.inl (by kernel_rfl)) (.inl (by kernel_rfl)) (fun _ h => h.2.1) (fun _ h => h.2.1) (⟨(by repeat (first | with_reducible exact hk | with_reducible exact Kept.refl _ | with_reducible refine Kept.alloc ?_ _ | with_reducible refine Kept.drew ?_ | with_reducible refine Kept.setCell ?_ (by simp only [World.size_alloc, World.size_setCell, World.size_drew]; omega) _)), (by (try simp only [World.size_alloc, World.size_setCell, World.size_drew]); omega), (by repeat (first | with_reducible assumption | with_reducible apply Box.set10 | with_reducible apply Box.set20 | with_reducible apply Box.set21 | with_reducible apply Box.set40 | with_reducible apply Box.set41 | with_reducible apply Box.set42 | with_reducible apply Box.set43 | with_reducible apply Box.set50 | with_reducible apply Box.set51 | with_reducible apply Box.set52 | with_reducible apply Box.set53 | with_reducible apply Box.set54 | with_reducible apply Box.set80 | with_reducible apply Box.set81 | with_reducible apply Box.set82 | with_reducible apply Box.set83 | with_reducible apply Box.set84 | with_reducible apply Box.set85 | with_reducible apply Box.set86 | with_reducible apply Box.set87 | with_reducible apply Box.drew | (with_reducible apply Box.newAt; (try simp only [World.size_alloc, World.size_setCell, World.size_drew]); done) | with_reducible apply Box.alloc | (with_reducible apply Box.other; case hne => ((try simp only [World.size_alloc, World.size_setCell, World.size_drew]); omega)))), (by repeat (first | with_reducible assumption | with_reducible apply Box.set10 | with_reducible apply Box.set20 | with_reducible apply Box.set21 | with_reducible apply Box.set40 | with_reducible apply Box.set41 | with_reducible apply Box.set42 | with_reducible apply Box.set43 | with_reducible apply Box.set50 | with_reducible apply Box.set51 | with_reducible apply Box.set52 | with_reducible apply Box.set53 | with_reducible apply Box.set54 | with_reducible apply Box.set80 | with_reducible apply Box.set81 | with_reducible apply Box.set82 | with_reducible apply Box.set83 | with_reducible apply Box.set84 | with_reducible apply Box.set85 | with_reducible apply Box.set86 | with_reducible apply Box.set87 | with_reducible apply Box.drew | (with_reducible apply Box.newAt; (try simp only [World.size_alloc, World.size_setCell, World.size_drew]); done) | with_reducible apply Box.alloc | (with_reducible apply Box.other; case hne => ((try simp only [World.size_alloc, World.size_setCell, World.size_drew]); omega))))⟩) ?_
  clear hk
  intro ρ
  simp only [List.take_succ_cons, List.take_zero, List.drop_succ_cons, List.drop_zero]
  refine ⟨?_, ?_⟩
  · as_aux_lemma =>
    intro y_ hS_ hO_ hD
    clear hS_ hO_ hD
    refine s_gen (V := .pointer (some ⟨w.heap.size, 0, none⟩)) [.pointer (some ⟨w.heap.size, 0, none⟩)] (by kernel_rfl) (by kernel_rfl) (by kernel_rfl) ?_
    intro r_ hr_
    have o0_ : r_ (.tmp 3) = .pointer (some ⟨w.heap.size, 0, none⟩) := op_at hr_ 0 (by kernel_rfl) (by kernel_rfl)
    clear hr_
    go_simp; first | done | with_reducible rfl | omega
  simp only [Act.put, planVG, List.setIfInBounds_toArray, List.set_cons_zero, List.set_cons_succ, List.getElem?_cons_zero, List.getElem?_cons_succ]
  refine ⟨?_, ?_⟩
  · as_aux_lemma =>
    intro y_ hS_ hO_ hD
    have Q := ((hS_ (by rfl)).2.2.1).cell
    have q0 := Q 0 _ rfl
    have q1 := Q 1 _ rfl
    have q2 := Q 2 _ rfl
    have q3 := Q 3 _ rfl
    have q4 := Q 4 _ rfl
    clear Q hS_ hO_ hD
    refine s_gen (V := .int .i64 (x0)) [.pointer (some ⟨w.heap.size, 0, none⟩)] (by kernel_rfl) (by kernel_rfl) (by kernel_rfl) ?_
    intro r_ hr_
    have o0_ : r_ (.tmp 15) = .pointer (some ⟨w.heap.size, 0, none⟩) := op_at hr_ 0 (by kernel_rfl) (by kernel_rfl)
    clear hr_
    go_simp; first | done | with_reducible rfl
  simp only [Act.put, planVG, List.setIfInBounds_toArray, List.set_cons_zero, List.set_cons_succ, List.getElem?_cons_zero, List.getElem?_cons_succ]
  refine ⟨?_, ?_⟩
  · as_aux_lemma =>
    intro y_ hS_ hO_ hD
    clear hS_ hO_ hD
    refine s_gen (V := .int .i64 (x1)) [.int .i64 (x0), .int .i64 1073741824] (by kernel_rfl) (by kernel_rfl) (by kernel_rfl) ?_
    intro r_ hr_
    have o0_ : r_ (.tmp 16) = .int .i64 (x0) := op_at hr_ 0 (by kernel_rfl) (by kernel_rfl)
    have o1_ : r_ (.const (.int .i64 1073741824)) = .int .i64 1073741824 := op_at hr_ 1 (by kernel_rfl) (by kernel_rfl)
    clear hr_
    go_simp; first | done | with_reducible rfl | omega
  simp only [Act.put, planVG, List.setIfInBounds_toArray, List.set_cons_zero, List.set_cons_succ, List.getElem?_cons_zero, List.getElem?_cons_succ]
  refine ⟨?_, ?_⟩
  · as_aux_lemma =>
    intro y_ hS_ hO_ hD
    clear hS_ hO_ hD
    refine s_gen (V := .int .i64 (x)) [.int .i64 (-1073741824), .int .i64 (x1)] (by kernel_rfl) (by kernel_rfl) (by kernel_rfl) ?_
    intro r_ hr_
    have o0_ : r_ (.const (.int .i64 (-1073741824))) = .int .i64 (-1073741824) := op_at hr_ 0 (by kernel_rfl) (by kernel_rfl)
    have o1_ : r_ (.tmp 17) = .int .i64 (x1) := op_at hr_ 1 (by kernel_rfl) (by kernel_rfl)
    clear hr_
    go_simp; first | done | with_reducible rfl | omega
  simp only [Act.put, planVG, List.setIfInBounds_toArray, List.set_cons_zero, List.set_cons_succ, List.getElem?_cons_zero, List.getElem?_cons_succ]
  refine ⟨?_, ?_⟩
  · as_aux_lemma =>
    intro y_ hS_ hO_ hD
    clear hS_ hO_ hD
    refine s_gen (V := .pointer (some ⟨w.heap.size + 1, 0, none⟩)) [.pointer (some ⟨w.heap.size + 1, 0, none⟩)] (by kernel_rfl) (by kernel_rfl) (by kernel_rfl) ?_
    intro r_ hr_
    have o0_ : r_ (.tmp 4) = .pointer (some ⟨w.heap.size + 1, 0, none⟩) := op_at hr_ 0 (by kernel_rfl) (by kernel_rfl)
    clear hr_
    go_simp; first | done | with_reducible rfl | omega
  simp only [Act.put, planVG, List.setIfInBounds_toArray, List.set_cons_zero, List.set_cons_succ, List.getElem?_cons_zero, List.getElem?_cons_succ]
  refine ⟨?_, ?_⟩
  · as_aux_lemma =>
    intro y_ hS_ hO_ hD
    have Q := (hO_.elim (fun h => h.2.2.2) (fun h => h.2.2.2)).cell
    have q0 := Q 0 _ rfl
    have q1 := Q 1 _ rfl
    have q2 := Q 2 _ rfl
    have q3 := Q 3 _ rfl
    have q4 := Q 4 _ rfl
    clear Q hS_ hO_ hD
    refine s_gen (V := .int .i64 (y0)) [.pointer (some ⟨w.heap.size + 1, 0, none⟩)] (by kernel_rfl) (by kernel_rfl) (by kernel_rfl) ?_
    intro r_ hr_
    have o0_ : r_ (.tmp 19) = .pointer (some ⟨w.heap.size + 1, 0, none⟩) := op_at hr_ 0 (by kernel_rfl) (by kernel_rfl)
    clear hr_
    go_simp; first | done | with_reducible rfl
  simp only [Act.put, planVG, List.setIfInBounds_toArray, List.set_cons_zero, List.set_cons_succ, List.getElem?_cons_zero, List.getElem?_cons_succ]
  refine ⟨?_, ?_⟩
  · as_aux_lemma =>
    intro y_ hS_ hO_ hD
    clear hS_ hO_ hD
    refine s_gen (V := .int .i64 (y1)) [.int .i64 (y0), .int .i64 1073741824] (by kernel_rfl) (by kernel_rfl) (by kernel_rfl) ?_
    intro r_ hr_
    have o0_ : r_ (.tmp 20) = .int .i64 (y0) := op_at hr_ 0 (by kernel_rfl) (by kernel_rfl)
    have o1_ : r_ (.const (.int .i64 1073741824)) = .int .i64 1073741824 := op_at hr_ 1 (by kernel_rfl) (by kernel_rfl)
    clear hr_
    go_simp; first | done | with_reducible rfl | omega
  simp only [Act.put, planVG, List.setIfInBounds_toArray, List.set_cons_zero, List.set_cons_succ, List.getElem?_cons_zero, List.getElem?_cons_succ]
  refine ⟨?_, ?_⟩
  · as_aux_lemma =>
    intro y_ hS_ hO_ hD
    clear hS_ hO_ hD
    refine s_gen (V := .int .i64 (y)) [.int .i64 (-1073741824), .int .i64 (y1)] (by kernel_rfl) (by kernel_rfl) (by kernel_rfl) ?_
    intro r_ hr_
    have o0_ : r_ (.const (.int .i64 (-1073741824))) = .int .i64 (-1073741824) := op_at hr_ 0 (by kernel_rfl) (by kernel_rfl)
    have o1_ : r_ (.tmp 21) = .int .i64 (y1) := op_at hr_ 1 (by kernel_rfl) (by kernel_rfl)
    clear hr_
    go_simp; first | done | with_reducible rfl | omega
  simp only [Act.put, planVG, List.setIfInBounds_toArray, List.set_cons_zero, List.set_cons_succ, List.getElem?_cons_zero, List.getElem?_cons_succ]
  refine ⟨?_, ?_⟩
  · as_aux_lemma =>
    intro y_ hS_ hO_ hD
    clear hS_ hO_ hD
    refine s_gen (V := .pointer (some ⟨w.heap.size, 0, none⟩)) [.pointer (some ⟨w.heap.size, 0, none⟩)] (by kernel_rfl) (by kernel_rfl) (by kernel_rfl) ?_
    intro r_ hr_
    have o0_ : r_ (.tmp 3) = .pointer (some ⟨w.heap.size, 0, none⟩) := op_at hr_ 0 (by kernel_rfl) (by kernel_rfl)
    clear hr_
    go_simp; first | done | with_reducible rfl | omega
  simp only [Act.put, planVG, List.setIfInBounds_toArray, List.set_cons_zero, List.set_cons_succ, List.getElem?_cons_zero, List.getElem?_cons_succ]
  refine ⟨?_, ?_⟩
  · as_aux_lemma =>
    intro y_ hS_ hO_ hD
    have HB_ := (hS_ (by rfl)).2.2.1
    have Q := ((hS_ (by rfl)).2.2.1).cell
    have q0 := Q 0 _ rfl
    have q1 := Q 1 _ rfl
    have q2 := Q 2 _ rfl
    have q3 := Q 3 _ rfl
    have q4 := Q 4 _ rfl
    have Qf := ((hS_ (by rfl)).2.2.1).free
    have Ql := ((hS_ (by rfl)).2.2.1).lt
    clear Q hS_ hO_ hD
    refine s_gout (b := w.heap.size) (V := [.int .i64 (x), .int .u64 (limb 0 A), .int .u64 (limb 1 A), .int .u64 (limb 2 A), .int .u64 (limb 3 A)]) [.pointer (some ⟨w.heap.size, 0, none⟩), .int .i64 (x)] (by kernel_rfl) (by kernel_rfl) (by kernel_rfl) ?_
    intro r_ hr_
    have o0_ : r_ (.tmp 23) = .pointer (some ⟨w.heap.size, 0, none⟩) := op_at hr_ 0 (by kernel_rfl) (by kernel_rfl)
    have o1_ : r_ (.tmp 18) = .int .i64 (x) := op_at hr_ 1 (by kernel_rfl) (by kernel_rfl)
    clear hr_
    rw [HB_.put_head]
    clear HB_
    go_simp; first | done | with_reducible rfl | rfl
  simp only [Act.put, planVG, List.setIfInBounds_toArray, List.set_cons_zero, List.set_cons_succ, List.getElem?_cons_zero, List.getElem?_cons_succ]
  as_aux_lemma =>
    intro w1 hS hF hD_
    change wpList _ _ _ _ _ _
    replace hS := sg_yes (by decide) hS
    obtain ⟨hk, hZ1, X1, X2⟩ := hS
    clear hF hD_
    clear ρ
    have hz_w1 := hk.size
    have X1l := X1.lt
    have X1f := X1.free
    have X1l1 : w.heap.size < w1.heap.size + 1 := by omega
    have X1l2 : w.heap.size < w1.heap.size + 1 + 1 := by omega
    have X1l3 : w.heap.size < w1.heap.size + 1 + 1 + 1 := by omega
    have X10 := X1.cell 0 _ rfl
    have X11 := X1.cell 1 _ rfl
    have X12 := X1.cell 2 _ rfl
    have X13 := X1.cell 3 _ rfl
    have X14 := X1.cell 4 _ rfl
    have X2l := X2.lt
    have X2f := X2.free
    have X2l1 : w.heap.size + 1 < w1.heap.size + 1 := by omega
    have X2l2 : w.heap.size + 1 < w1.heap.size + 1 + 1 := by omega
    have X2l3 : w.heap.size + 1 < w1.heap.size + 1 + 1 + 1 := by omega
    have X20 := X2.cell 0 _ rfl
    have X21 := X2.cell 1 _ rfl
    have X22 := X2.cell 2 _ rfl
    have X23 := X2.cell 3 _ rfl
    have X24 := X2.cell 4 _ rfl
    go_wp2
    refine wp_region_g 6 (fun W' => Kept w.heap.size w W' ∧ w1.heap.size ≤ W'.heap.size ∧ Box W' (w.heap.size) #[.int .i64 (x), .int .u64 (limb 0 A), .int .u64 (limb 1 A), .int .u64 (limb 2 A), .int .u64 (limb 3 A)] ∧ Box W' (w.heap.size + 1) #[.int .i64 (y), .int .u64 (limb 0 B), .int .u64 (limb 1 B), .int .u64 (limb 2 B), .int .u64 (limb 3 B)]) (fun W' => Kept w.heap.size w W' ∧ w1.heap.size ≤ W'.heap.size ∧ Box W' (w.heap.size) #[.int .i64 (x), .int .u64 (limb 0 A), .int .u64 (limb 1 A), .int .u64 (limb 2 A), .int .u64 (limb 3 A)] ∧ Box W' (w.heap.size + 1) #[.int .i64 (y), .int .u64 (limb 0 B), .int .u64 (limb 1 B), .int .u64 (limb 2 B), .int .u64 (limb 3 B)]) 1000 (w1.heap.size) [.known (termV x A), .known (termV y B), .var #[.int .i64 0, .int .u64 0, .int .u64 0, .int .u64 0, .int .u64 0] 4 [.int .i64 (x), .int .u64 (limb 0 A), .int .u64 (limb 1 A), .int .u64 (limb 2 A), .int .u64 (limb 3 A)], .var #[.int .i64 0, .int .u64 0, .int .u64 0, .int .u64 0, .int .u64 0] 5 [.int .i64 (y), .int .u64 (limb 0 B), .int .u64 (limb 1 B), .int .u64 (limb 2 B), .int .u64 (limb 3 B)], .put 2, .put 3] (by kernel_rfl) (by kernel_rfl) (fun W W' h hb => ⟨h.1.step hb, Nat.le_trans (h.2.1) hb.size, Box.call hb (h.2.2.1), Box.call hb (h.2.2.2)⟩) (fun W W' h hb => ⟨h.1.step hb, Nat.le_trans (h.2.1) hb.size, Box.call hb (h.2.2.1), Box.call hb (h.2.2.2)⟩) (no_out (of_decide_eq_true (by kernel_rfl))) (.inr (fun W' b i v hb h => ⟨h.1.setCell (p := ⟨b, i, none⟩) (by simp only []; omega) v, (by rw [World.size_setCell]; exact h.2.1), (h.2.2.1).other (by omega), (h.2.2.2).other (by omega)⟩)) (.inr (fun W' b i v hb h => ⟨h.1.setCell (p := ⟨b, i, none⟩) (by simp only []; omega) v, (by rw [World.size_setCell]; exact h.2.1), (h.2.2.1).other (by omega), (h.2.2.2).other (by omega)⟩)) (fun _ h => h.2.1) (fun _ h => h.2.1) (⟨(by repeat (first | with_reducible exact hk | with_reducible exact Kept.refl _ | with_reducible refine Kept.alloc ?_ _ | with_reducible refine Kept.drew ?_ | with_reducible refine Kept.setCell ?_ (by simp only [World.size_alloc, World.size_setCell, World.size_drew]; omega) _)), (by (try simp only [World.size_alloc, World.size_setCell, World.size_drew]); omega), (by repeat (first | with_reducible assumption | with_reducible apply Box.set10 | with_reducible apply Box.set20 | with_reducible apply Box.set21 | with_reducible apply Box.set40 | with_reducible apply Box.set41 | with_reducible apply Box.set42 | with_reducible apply Box.set43 | with_reducible apply Box.set50 | with_reducible apply Box.set51 | with_reducible apply Box.set52 | with_reducible apply Box.set53 | with_reducible apply Box.set54 | with_reducible apply Box.set80 | with_reducible apply Box.set81 | with_reducible apply Box.set82 | with_reducible apply Box.set83 | with_reducible apply Box.set84 | with_reducible apply Box.set85 | with_reducible apply Box.set86 | with_reducible apply Box.set87 | with_reducible apply Box.drew | (with_reducible apply Box.newAt; (try simp only [World.size_alloc, World.size_setCell, World.size_drew]); done) | with_reducible apply Box.alloc | (with_reducible apply Box.other; case hne => ((try simp only [World.size_alloc, World.size_setCell, World.size_drew]); omega)))), (by repeat (first | with_reducible assumption | with_reducible apply Box.set10 | with_reducible apply Box.set20 | with_reducible apply Box.set21 | with_reducible apply Box.set40 | with_reducible apply Box.set41 | with_reducible apply Box.set42 | with_reducible apply Box.set43 | with_reducible apply Box.set50 | with_reducible apply Box.set51 | with_reducible apply Box.set52 | with_reducible apply Box.set53 | with_reducible apply Box.set54 | with_reducible apply Box.set80 | with_reducible apply Box.set81 | with_reducible apply Box.set82 | with_reducible apply Box.set83 | with_reducible apply Box.set84 | with_reducible apply Box.set85 | with_reducible apply Box.set86 | with_reducible apply Box.set87 | with_reducible apply Box.drew | (with_reducible apply Box.newAt; (try simp only [World.size_alloc, World.size_setCell, World.size_drew]); done) | with_reducible apply Box.alloc | (with_reducible apply Box.other; case hne => ((try simp only [World.size_alloc, World.size_setCell, World.size_drew]); omega))))⟩) ?_
    clear hk
    clear X1 X1l1 X1l2 X1l3 X1f X10 X11 X12 X13 X14
    clear X2 X2l1 X2l2 X2l3 X2f X20 X21 X22 X23 X24
    intro ρ
    simp only [List.take_succ_cons, List.take_zero, List.drop_succ_cons, List.drop_zero]
    refine ⟨?_, ?_⟩
    · as_aux_lemma =>
      intro y_ hS_ hO_ hD
      have Q := ((hS_ (by rfl)).2.2.1).cell
      have q0 := Q 0 _ rfl
      have q1 := Q 1 _ rfl
      have q2 := Q 2 _ rfl
      have q3 := Q 3 _ rfl
      have q4 := Q 4 _ rfl
      clear Q hS_ hO_ hD
      refine s_gen (V := termV x A) [.pointer (some ⟨w.heap.size, 0, none⟩)] (by kernel_rfl) (by kernel_rfl) (by kernel_rfl) ?_
      intro r_ hr_
      have o0_ : r_ (.tmp 3) = .pointer (some ⟨w.heap.size, 0, none⟩) := op_at hr_ 0 (by kernel_rfl) (by kernel_rfl)
      clear hr_
      go_simp; first | done | with_reducible rfl
    simp only [Act.put, planVG, List.setIfInBounds_toArray, List.set_cons_zero, List.set_cons_succ, List.getElem?_cons_zero, List.getElem?_cons_succ]
    refine ⟨?_, ?_⟩
    · as_aux_lemma =>
      intro y_ hS_ hO_ hD
      have Q := ((hS_ (by rfl)).2.2.2).cell
      have q0 := Q 0 _ rfl
      have q1 := Q 1 _ rfl
      have q2 := Q 2 _ rfl
      have q3 := Q 3 _ rfl
      have q4 := Q 4 _ rfl
      clear Q hS_ hO_ hD
      refine s_gen (V := termV y B) [.pointer (some ⟨w.heap.size + 1, 0, none⟩)] (by kernel_rfl) (by kernel_rfl) (by kernel_rfl) ?_
      intro r_ hr_
      have o0_ : r_ (.tmp 4) = .pointer (some ⟨w.heap.size + 1, 0, none⟩) := op_at hr_ 0 (by kernel_rfl) (by kernel_rfl)
      clear hr_
      go_simp; first | done | with_reducible rfl
    simp only [Act.put, planVG, List.setIfInBounds_toArray, List.set_cons_zero, List.set_cons_succ, List.getElem?_cons_zero, List.getElem?_cons_succ]
    refine ⟨?_, ?_⟩
    · as_aux_lemma =>
      intro y_ hS_ hO_ hD
      clear hS_ hO_ hD
      refine s_alloc (by rfl) (by rfl) ?_
      simp only [allocTy]
      go_simp; first | done | with_reducible rfl | rfl
    simp only [Act.put, planVG, List.setIfInBounds_toArray, List.set_cons_zero, List.set_cons_succ, List.getElem?_cons_zero, List.getElem?_cons_succ]
    refine ⟨?_, ?_⟩
    · as_aux_lemma =>
      intro y_ hS_ hO_ hD
      clear hS_ hO_ hD
      refine s_alloc (by rfl) (by rfl) ?_
      simp only [allocTy]
      go_simp; first | done | with_reducible rfl | rfl
    simp only [Act.put, planVG, List.setIfInBounds_toArray, List.set_cons_zero, List.set_cons_succ, List.getElem?_cons_zero, List.getElem?_cons_succ]
    refine ⟨?_, ?_⟩
    · as_aux_lemma =>
      intro y_ hS_ hO_ hD
      have hS := hS_ (by rfl)
      clear hS hS_ hO_ hD
      refine s_gput (j := 2) (Z := #[.int .i64 0, .int .u64 0, .int .u64 0, .int .u64 0, .int .u64 0]) (V := [.int .i64 (x), .int .u64 (limb 0 A), .int .u64 (limb 1 A), .int .u64 (limb 2 A), .int .u64 (limb 3 A)]) [ρ 2, termV x A] (by kernel_rfl) (by kernel_rfl) (by kernel_rfl) (by kernel_rfl) ?_
      intro r_ b hr_ hb hB F
      have o0_ : r_ (.tmp 7) = ρ 2 := op_at hr_ 0 (by kernel_rfl) (by kernel_rfl)
      have o1_ : r_ (.tmp 25) = termV x A := op_at hr_ 1 (by kernel_rfl) (by kernel_rfl)
      clear hr_
      rw [hb] at o0_
      have Q := F.cell
      have q0 := Q 0 _ rfl
      have q1 := Q 1 _ rfl
      have q2 := Q 2 _ rfl
      have q3 := Q 3 _ rfl
      have q4 := Q 4 _ rfl
      have Qf := F.free
      have Ql := F.lt
      clear Q F
      simp only [putCells]
      go_simp; first | done | with_reducible rfl | rfl
    simp only [Act.put, planVG, List.setIfInBounds_toArray, List.set_cons_zero, List.set_cons_succ, List.getElem?_cons_zero, List.getElem?_cons_succ]
    refine ⟨?_, ?_⟩
    · as_aux_lemma =>
      intro y_ hS_ hO_ hD
      have hS := hS_ (by rfl)
      clear hS hS_ hO_ hD
      refine s_gput (j := 3) (Z := #[.int .i64 0, .int .u64 0, .int .u64 0, .int .u64 0, .int .u64 0]) (V := [.int .i64 (y), .int .u64 (limb 0 B), .int .u64 (limb 1 B), .int .u64 (limb 2 B), .int .u64 (limb 3 B)]) [ρ 3, termV y B] (by kernel_rfl) (by kernel_rfl) (by kernel_rfl) (by kernel_rfl) ?_
      intro r_ b hr_ hb hB F
      have o0_ : r_ (.tmp 8) = ρ 3 := op_at hr_ 0 (by kernel_rfl) (by kernel_rfl)
      have o1_ : r_ (.tmp 26) = termV y B := op_at hr_ 1 (by kernel_rfl) (by kernel_rfl)
      clear hr_
      rw [hb] at o0_
      have Q := F.cell
      have q0 := Q 0 _ rfl
      have q1 := Q 1 _ rfl
      have q2 := Q 2 _ rfl
      have q3 := Q 3 _ rfl
      have q4 := Q 4 _ rfl
      have Qf := F.free
      have Ql := F.lt
      clear Q F
      simp only [putCells]
      go_simp; first | done | with_reducible rfl | rfl
    simp only [Act.put, planVG, List.setIfInBounds_toArray, List.set_cons_zero, List.set_cons_succ, List.getElem?_cons_zero, List.getElem?_cons_succ]
    as_aux_lemma =>
      intro w2 hS hF hD_
      change wpList _ _ _ _ _ _
      replace hS := sg_no (by decide) hS
      obtain ⟨hk, hZ2, X1, X2⟩ := hS
      obtain ⟨v2_2, e_v2_2, hv2_2, Bv2_2⟩ : ∃ b, ρ 2 = .pointer (some ⟨b, 0, none⟩) ∧ w1.heap.size ≤ b ∧ Box w2 b #[.int .i64 (x), .int .u64 (limb 0 A), .int .u64 (limb 1 A), .int .u64 (limb 2 A), .int .u64 (limb 3 A)] := by
        obtain ⟨b, h1, h2, h3⟩ := hF 2 (by decide)
        exact ⟨b, h1, h2, h3.lt, h3.cell, h3.free⟩
      obtain ⟨v2_3, e_v2_3, hv2_3, Bv2_3⟩ : ∃ b, ρ 3 = .pointer (some ⟨b, 0, none⟩) ∧ w1.heap.size ≤ b ∧ Box w2 b #[.int .i64 (y), .int .u64 (limb 0 B), .int .u64 (limb 1 B), .int .u64 (limb 2 B), .int .u64 (limb 3 B)] := by
        obtain ⟨b, h1, h2, h3⟩ := hF 3 (by decide)
        exact ⟨b, h1, h2, h3.lt, h3.cell, h3.free⟩
      have nv2_2_v2_3 : ¬ v2_2 = v2_3 := fun h => hD_ 2 3 (by decide) (by decide) (by decide) (by rfl) (by rfl) (by rw [e_v2_2, e_v2_3, h])
      have nv2_3_v2_2 : ¬ v2_3 = v2_2 := fun h => nv2_2_v2_3 h.symm
      clear hF hD_
      simp only [e_v2_2]
      clear e_v2_2
      simp only [e_v2_3]
      clear e_v2_3
      clear ρ
      have hz_w2 := hk.size
      have X1l := X1.lt
      have X1f := X1.free
      have X1l1 : w.heap.size < w2.heap.size + 1 := by omega
      have X1l2 : w.heap.size < w2.heap.size + 1 + 1 := by omega
      have X1l3 : w.heap.size < w2.heap.size + 1 + 1 + 1 := by omega
      have X10 := X1.cell 0 _ rfl
      have X11 := X1.cell 1 _ rfl
      have X12 := X1.cell 2 _ rfl
      have X13 := X1.cell 3 _ rfl
      have X14 := X1.cell 4 _ rfl
      have X2l := X2.lt
      have X2f := X2.free
      have X2l1 : w.heap.size + 1 < w2.heap.size + 1 := by omega
      have X2l2 : w.heap.size + 1 < w2.heap.size + 1 + 1 := by omega
      have X2l3 : w.heap.size + 1 < w2.heap.size + 1 + 1 + 1 := by omega
      have X20 := X2.cell 0 _ rfl
      have X21 := X2.cell 1 _ rfl
      have X22 := X2.cell 2 _ rfl
      have X23 := X2.cell 3 _ rfl
      have X24 := X2.cell 4 _ rfl
      have Bv2_2l := Bv2_2.lt
      have Bv2_2f := Bv2_2.free
      have Bv2_2l1 : v2_2 < w2.heap.size + 1 := by omega
      have Bv2_2l2 : v2_2 < w2.heap.size + 1 + 1 := by omega
      have Bv2_2l3 : v2_2 < w2.heap.size + 1 + 1 + 1 := by omega
      have Bv2_20 := Bv2_2.cell 0 _ rfl
      have Bv2_21 := Bv2_2.cell 1 _ rfl
      have Bv2_22 := Bv2_2.cell 2 _ rfl
      have Bv2_23 := Bv2_2.cell 3 _ rfl
      have Bv2_24 := Bv2_2.cell 4 _ rfl
      have Bv2_3l := Bv2_3.lt
      have Bv2_3f := Bv2_3.free
      have Bv2_3l1 : v2_3 < w2.heap.size + 1 := by omega
      have Bv2_3l2 : v2_3 < w2.heap.size + 1 + 1 := by omega
      have Bv2_3l3 : v2_3 < w2.heap.size + 1 + 1 + 1 := by omega
      have Bv2_30 := Bv2_3.cell 0 _ rfl
      have Bv2_31 := Bv2_3.cell 1 _ rfl
      have Bv2_32 := Bv2_3.cell 2 _ rfl
      have Bv2_33 := Bv2_3.cell 3 _ rfl
      have Bv2_34 := Bv2_3.cell 4 _ rfl
      go_wp2
      refine wp_region_g 12 (fun W' => Kept w.heap.size w W' ∧ w2.heap.size ≤ W'.heap.size ∧ Box W' (w.heap.size) #[.int .i64 (x), .int .u64 (limb 0 A), .int .u64 (limb 1 A), .int .u64 (limb 2 A), .int .u64 (limb 3 A)] ∧ Box W' (w.heap.size + 1) #[.int .i64 (y), .int .u64 (limb 0 B), .int .u64 (limb 1 B), .int .u64 (limb 2 B), .int .u64 (limb 3 B)] ∧ Box W' (v2_2) #[.int .i64 (x), .int .u64 (limb 0 A), .int .u64 (limb 1 A), .int .u64 (limb 2 A), .int .u64 (limb 3 A)] ∧ Box W' (v2_3) #[.int .i64 (y), .int .u64 (limb 0 B), .int .u64 (limb 1 B), .int .u64 (limb 2 B), .int .u64 (limb 3 B)]) (fun W' => Kept w.heap.size w W' ∧ w2.heap.size ≤ W'.heap.size ∧ Box W' (w.heap.size) #[.int .i64 (x), .int .u64 (limb 0 A), .int .u64 (limb 1 A), .int .u64 (limb 2 A), .int .u64 (limb 3 A)] ∧ Box W' (w.heap.size + 1) #[.int .i64 (y), .int .u64 (limb 0 B), .int .u64 (limb 1 B), .int .u64 (limb 2 B), .int .u64 (limb 3 B)] ∧ Box W' (v2_2) #[.int .i64 (x + d), .int .u64 (limb 0 A), .int .u64 (limb 1 A), .int .u64 (limb 2 A), .int .u64 (limb 3 A)] ∧ Box W' (v2_3) #[.int .i64 (y), .int .u64 (limb 0 B), .int .u64 (limb 1 B), .int .u64 (limb 2 B), .int .u64 (limb 3 B)]) 11 (w2.heap.size) [.known (.pointer (some ⟨w.heap.size, 0, none⟩)), .known (.int .i64 (x)), .known (.int .i16 (d)), .known (.int .i64 (d)), .known (.int .i64 (x + d)), .known (.pointer (some ⟨w.heap.size + 1, 0, none⟩)), .known (.int .i64 (y)), .known (.int .i16 (d)), .known (.int .i64 (d)), .known (.int .i64 (y + d)), .known (.pointer (some ⟨v2_2, 0, none⟩)), .out (v2_2) [.int .i64 (x + d), .int .u64 (limb 0 A), .int .u64 (limb 1 A), .int .u64 (limb 2 A), .int .u64 (limb 3 A)]] (by kernel_rfl) (by kernel_rfl) (fun W W' h hb => ⟨h.1.step hb, Nat.le_trans (h.2.1) hb.size, Box.call hb (h.2.2.1), Box.call hb (h.2.2.2.1), Box.call hb (h.2.2.2.2.1), Box.call hb (h.2.2.2.2.2)⟩) (fun W W' h hb => ⟨h.1.step hb, Nat.le_trans (h.2.1) hb.size, Box.call hb (h.2.2.1), Box.call hb (h.2.2.2.1), Box.call hb (h.2.2.2.2.1), Box.call hb (h.2.2.2.2.2)⟩) (fun b V e => by
        obtain ⟨rfl, rfl⟩ : v2_2 = b ∧ [.int .i64 (x + d), .int .u64 (limb 0 A), .int .u64 (limb 1 A), .int .u64 (limb 2 A), .int .u64 (limb 3 A)] = V := by injection e with e; injection e with e1 e2; exact ⟨e1, e2⟩
        exact ⟨by omega, fun w' h => ⟨(by simp only [putCells]; exact (((((h.1).setCell (p := ⟨v2_2, 0, none⟩) (by simp only []; omega) _).setCell (p := ⟨v2_2, 1, none⟩) (by simp only []; omega) _).setCell (p := ⟨v2_2, 2, none⟩) (by simp only []; omega) _).setCell (p := ⟨v2_2, 3, none⟩) (by simp only []; omega) _).setCell (p := ⟨v2_2, 4, none⟩) (by simp only []; omega) _), (by rw [putCells_size]; exact h.2.1), (by simp only [putCells]; exact (((((h.2.2.1).other (by omega)).other (by omega)).other (by omega)).other (by omega)).other (by omega)), (by simp only [putCells]; exact (((((h.2.2.2.1).other (by omega)).other (by omega)).other (by omega)).other (by omega)).other (by omega)), (by simp only [putCells]; with_reducible apply Box.set54; with_reducible apply Box.set53; with_reducible apply Box.set52; with_reducible apply Box.set51; with_reducible apply Box.set50; exact h.2.2.2.2.1), (by simp only [putCells]; exact (((((h.2.2.2.2.2).other (by omega)).other (by omega)).other (by omega)).other (by omega)).other (by omega))⟩⟩) (.inl (by kernel_rfl)) (.inl (by kernel_rfl)) (fun _ h => h.2.1) (fun _ h => h.2.1) (⟨(by repeat (first | with_reducible exact hk | with_reducible exact Kept.refl _ | with_reducible refine Kept.alloc ?_ _ | with_reducible refine Kept.drew ?_ | with_reducible refine Kept.setCell ?_ (by simp only [World.size_alloc, World.size_setCell, World.size_drew]; omega) _)), (by (try simp only [World.size_alloc, World.size_setCell, World.size_drew]); omega), (by repeat (first | with_reducible assumption | with_reducible apply Box.set10 | with_reducible apply Box.set20 | with_reducible apply Box.set21 | with_reducible apply Box.set40 | with_reducible apply Box.set41 | with_reducible apply Box.set42 | with_reducible apply Box.set43 | with_reducible apply Box.set50 | with_reducible apply Box.set51 | with_reducible apply Box.set52 | with_reducible apply Box.set53 | with_reducible apply Box.set54 | with_reducible apply Box.set80 | with_reducible apply Box.set81 | with_reducible apply Box.set82 | with_reducible apply Box.set83 | with_reducible apply Box.set84 | with_reducible apply Box.set85 | with_reducible apply Box.set86 | with_reducible apply Box.set87 | with_reducible apply Box.drew | (with_reducible apply Box.newAt; (try simp only [World.size_alloc, World.size_setCell, World.size_drew]); done) | with_reducible apply Box.alloc | (with_reducible apply Box.other; case hne => ((try simp only [World.size_alloc, World.size_setCell, World.size_drew]); omega)))), (by repeat (first | with_reducible assumption | with_reducible apply Box.set10 | with_reducible apply Box.set20 | with_reducible apply Box.set21 | with_reducible apply Box.set40 | with_reducible apply Box.set41 | with_reducible apply Box.set42 | with_reducible apply Box.set43 | with_reducible apply Box.set50 | with_reducible apply Box.set51 | with_reducible apply Box.set52 | with_reducible apply Box.set53 | with_reducible apply Box.set54 | with_reducible apply Box.set80 | with_reducible apply Box.set81 | with_reducible apply Box.set82 | with_reducible apply Box.set83 | with_reducible apply Box.set84 | with_reducible apply Box.set85 | with_reducible apply Box.set86 | with_reducible apply Box.set87 | with_reducible apply Box.drew | (with_reducible apply Box.newAt; (try simp only [World.size_alloc, World.size_setCell, World.size_drew]); done) | with_reducible apply Box.alloc | (with_reducible apply Box.other; case hne => ((try simp only [World.size_alloc, World.size_setCell, World.size_drew]); omega)))), (by repeat (first | with_reducible assumption | with_reducible apply Box.set10 | with_reducible apply Box.set20 | with_reducible apply Box.set21 | with_reducible apply Box.set40 | with_reducible apply Box.set41 | with_reducible apply Box.set42 | with_reducible apply Box.set43 | with_reducible apply Box.set50 | with_reducible apply Box.set51 | with_reducible apply Box.set52 | with_reducible apply Box.set53 | with_reducible apply Box.set54 | with_reducible apply Box.set80 | with_reducible apply Box.set81 | with_reducible apply Box.set82 | with_reducible apply Box.set83 | with_reducible apply Box.set84 | with_reducible apply Box.set85 | with_reducible apply Box.set86 | with_reducible apply Box.set87 | with_reducible apply Box.drew | (with_reducible apply Box.newAt; (try simp only [World.size_alloc, World.size_setCell, World.size_drew]); done) | with_reducible apply Box.alloc | (with_reducible apply Box.other; case hne => ((try simp only [World.size_alloc, World.size_setCell, World.size_drew]); omega)))), (by repeat (first | with_reducible assumption | with_reducible apply Box.set10 | with_reducible apply Box.set20 | with_reducible apply Box.set21 | with_reducible apply Box.set40 | with_reducible apply Box.set41 | with_reducible apply Box.set42 | with_reducible apply Box.set43 | with_reducible apply Box.set50 | with_reducible apply Box.set51 | with_reducible apply Box.set52 | with_reducible apply Box.set53 | with_reducible apply Box.set54 | with_reducible apply Box.set80 | with_reducible apply Box.set81 | with_reducible apply Box.set82 | with_reducible apply Box.set83 | with_reducible apply Box.set84 | with_reducible apply Box.set85 | with_reducible apply Box.set86 | with_reducible apply Box.set87 | with_reducible apply Box.drew | (with_reducible apply Box.newAt; (try simp only [World.size_alloc, World.size_setCell, World.size_drew]); done) | with_reducible apply Box.alloc | (with_reducible apply Box.other; case hne => ((try simp only [World.size_alloc, World.size_setCell, World.size_drew]); omega))))⟩) ?_
      clear hk
      clear X1 X1l1 X1l2 X1l3 X1f X10 X11 X12 X13 X14
      clear X2 X2l1 X2l2 X2l3 X2f X20 X21 X22 X23 X24
      clear Bv2_2 Bv2_2l1 Bv2_2l2 Bv2_2l3 Bv2_2f Bv2_20 Bv2_21 Bv2_22 Bv2_23 Bv2_24
      clear Bv2_3 Bv2_3l1 Bv2_3l2 Bv2_3l3 Bv2_3f Bv2_30 Bv2_31 Bv2_32 Bv2_33 Bv2_34
      intro ρ
      simp only [List.take_succ_cons, List.take_zero, List.drop_succ_cons, List.drop_zero]
      refine ⟨?_, ?_⟩
      · as_aux_lemma =>
        intro y_ hS_ hO_ hD
        clear hS_ hO_ hD
        refine s_gen (V := .pointer (some ⟨w.heap.size, 0, none⟩)) [.pointer (some ⟨w.heap.size, 0, none⟩)] (by kernel_rfl) (by kernel_rfl) (by kernel_rfl) ?_
        intro r_ hr_
        have o0_ : r_ (.tmp 3) = .pointer (some ⟨w.heap.size, 0, none⟩) := op_at hr_ 0 (by kernel_rfl) (by kernel_rfl)
        clear hr_
        go_simp; first | done | with_reducible rfl | omega
      simp only [Act.put, planVG, List.setIfInBounds_toArray, List.set_cons_zero, List.set_cons_succ, List.getElem?_cons_zero, List.getElem?_cons_succ]
      refine ⟨?_, ?_⟩
      · as_aux_lemma =>
        intro y_ hS_ hO_ hD
        have Q := (hO_.elim (fun h => h.2.2.1) (fun h => h.2.2.1)).cell
        have q0 := Q 0 _ rfl
        have q1 := Q 1 _ rfl
        have q2 := Q 2 _ rfl
        have q3 := Q 3 _ rfl
        have q4 := Q 4 _ rfl
        clear Q hS_ hO_ hD
        refine s_gen (V := .int .i64 (x)) [.pointer (some ⟨w.heap.size, 0, none⟩)] (by kernel_rfl) (by kernel_rfl) (by kernel_rfl) ?_
        intro r_ hr_
        have o0_ : r_ (.tmp 27) = .pointer (some ⟨w.heap.size, 0, none⟩) := op_at hr_ 0 (by kernel_rfl) (by kernel_rfl)
        clear hr_
        go_simp; first | done | with_reducible rfl
      simp only [Act.put, planVG, List.setIfInBounds_toArray, List.set_cons_zero, List.set_cons_succ, List.getElem?_cons_zero, List.getElem?_cons_succ]
      refine ⟨?_, ?_⟩
      · as_aux_lemma =>
        intro y_ hS_ hO_ hD
        clear hS_ hO_ hD
        refine s_gen (V := .int .i16 (d)) [.int .i16 (d)] (by kernel_rfl) (by kernel_rfl) (by kernel_rfl) ?_
        intro r_ hr_
        have o0_ : r_ (.tmp 2) = .int .i16 (d) := op_at hr_ 0 (by kernel_rfl) (by kernel_rfl)
        clear hr_
        go_simp; first | done | with_reducible rfl | omega
      simp only [Act.put, planVG, List.setIfInBounds_toArray, List.set_cons_zero, List.set_cons_succ, List.getElem?_cons_zero, List.getElem?_cons_succ]
      refine ⟨?_, ?_⟩
      · as_aux_lemma =>
        intro y_ hS_ hO_ hD
        clear hS_ hO_ hD
        refine s_gen (V := .int .i64 (d)) [.int .i16 (d)] (by kernel_rfl) (by kernel_rfl) (by kernel_rfl) ?_
        intro r_ hr_
        have o0_ : r_ (.tmp 29) = .int .i16 (d) := op_at hr_ 0 (by kernel_rfl) (by kernel_rfl)
        clear hr_
        go_simp; first | done | with_reducible rfl | omega
      simp only [Act.put, planVG, List.setIfInBounds_toArray, List.set_cons_zero, List.set_cons_succ, List.getElem?_cons_zero, List.getElem?_cons_succ]
      refine ⟨?_, ?_⟩
      · as_aux_lemma =>
        intro y_ hS_ hO_ hD
        clear hS_ hO_ hD
        refine s_gen (V := .int .i64 (x + d)) [.int .i64 (x), .int .i64 (d)] (by kernel_rfl) (by kernel_rfl) (by kernel_rfl) ?_
        intro r_ hr_
        have o0_ : r_ (.tmp 28) = .int .i64 (x) := op_at hr_ 0 (by kernel_rfl) (by kernel_rfl)
        have o1_ : r_ (.tmp 30) = .int .i64 (d) := op_at hr_ 1 (by kernel_rfl) (by kernel_rfl)
        clear hr_
        go_simp; first | done | with_reducible rfl | omega
      simp only [Act.put, planVG, List.setIfInBounds_toArray, List.set_cons_zero, List.set_cons_succ, List.getElem?_cons_zero, List.getElem?_cons_succ]
      refine ⟨?_, ?_⟩
      · as_aux_lemma =>
        intro y_ hS_ hO_ hD
        clear hS_ hO_ hD
        refine s_gen (V := .pointer (some ⟨w.heap.size + 1, 0, none⟩)) [.pointer (some ⟨w.heap.size + 1, 0, none⟩)] (by kernel_rfl) (by kernel_rfl) (by kernel_rfl) ?_
        intro r_ hr_
        have o0_ : r_ (.tmp 4) = .pointer (some ⟨w.heap.size + 1, 0, none⟩) := op_at hr_ 0 (by kernel_rfl) (by kernel_rfl)
        clear hr_
        go_simp; first | done | with_reducible rfl | omega
      simp only [Act.put, planVG, List.setIfInBounds_toArray, List.set_cons_zero, List.set_cons_succ, List.getElem?_cons_zero, List.getElem?_cons_succ]
      refine ⟨?_, ?_⟩
      · as_aux_lemma =>
        intro y_ hS_ hO_ hD
        have Q := (hO_.elim (fun h => h.2.2.2.1) (fun h => h.2.2.2.1)).cell
        have q0 := Q 0 _ rfl
        have q1 := Q 1 _ rfl
        have q2 := Q 2 _ rfl
        have q3 := Q 3 _ rfl
        have q4 := Q 4 _ rfl
        clear Q hS_ hO_ hD
        refine s_gen (V := .int .i64 (y)) [.pointer (some ⟨w.heap.size + 1, 0, none⟩)] (by kernel_rfl) (by kernel_rfl) (by kernel_rfl) ?_
        intro r_ hr_
        have o0_ : r_ (.tmp 32) = .pointer (some ⟨w.heap.size + 1, 0, none⟩) := op_at hr_ 0 (by kernel_rfl) (by kernel_rfl)
        clear hr_
        go_simp; first | done | with_reducible rfl
      simp only [Act.put, planVG, List.setIfInBounds_toArray, List.set_cons_zero, List.set_cons_succ, List.getElem?_cons_zero, List.getElem?_cons_succ]
      refine ⟨?_, ?_⟩
      · as_aux_lemma =>
        intro y_ hS_ hO_ hD
        clear hS_ hO_ hD
        refine s_gen (V := .int .i16 (d)) [.int .i16 (d)] (by kernel_rfl) (by kernel_rfl) (by kernel_rfl) ?_
        intro r_ hr_
        have o0_ : r_ (.tmp 2) = .int .i16 (d) := op_at hr_ 0 (by kernel_rfl) (by kernel_rfl)
        clear hr_
        go_simp; first | done | with_reducible rfl | omega
      simp only [Act.put, planVG, List.setIfInBounds_toArray, List.set_cons_zero, List.set_cons_succ, List.getElem?_cons_zero, List.getElem?_cons_succ]
      refine ⟨?_, ?_⟩
      · as_aux_lemma =>
        intro y_ hS_ hO_ hD
        clear hS_ hO_ hD
        refine s_gen (V := .int .i64 (d)) [.int .i16 (d)] (by kernel_rfl) (by kernel_rfl) (by kernel_rfl) ?_
        intro r_ hr_
        have o0_ : r_ (.tmp 34) = .int .i16 (d) := op_at hr_ 0 (by kernel_rfl) (by kernel_rfl)
        clear hr_
        go_simp; first | done | with_reducible rfl | omega
      simp only [Act.put, planVG, List.setIfInBounds_toArray, List.set_cons_zero, List.set_cons_succ, List.getElem?_cons_zero, List.getElem?_cons_succ]
      refine ⟨?_, ?_⟩
      · as_aux_lemma =>
        intro y_ hS_ hO_ hD
        clear hS_ hO_ hD
        refine s_gen (V := .int .i64 (y + d)) [.int .i64 (y), .int .i64 (d)] (by kernel_rfl) (by kernel_rfl) (by kernel_rfl) ?_
        intro r_ hr_
        have o0_ : r_ (.tmp 33) = .int .i64 (y) := op_at hr_ 0 (by kernel_rfl) (by kernel_rfl)
        have o1_ : r_ (.tmp 35) = .int .i64 (d) := op_at hr_ 1 (by kernel_rfl) (by kernel_rfl)
        clear hr_
        go_simp; first | done | with_reducible rfl | omega
      simp only [Act.put, planVG, List.setIfInBounds_toArray, List.set_cons_zero, List.set_cons_succ, List.getElem?_cons_zero, List.getElem?_cons_succ]
      refine ⟨?_, ?_⟩
      · as_aux_lemma =>
        intro y_ hS_ hO_ hD
        clear hS_ hO_ hD
        refine s_gen (V := .pointer (some ⟨v2_2, 0, none⟩)) [.pointer (some ⟨v2_2, 0, none⟩)] (by kernel_rfl) (by kernel_rfl) (by kernel_rfl) ?_
        intro r_ hr_
        have o0_ : r_ (.tmp 7) = .pointer (some ⟨v2_2, 0, none⟩) := op_at hr_ 0 (by kernel_rfl) (by kernel_rfl)
        clear hr_
        go_simp; first | done | with_reducible rfl | omega
      simp only [Act.put, planVG, List.setIfInBounds_toArray, List.set_cons_zero, List.set_cons_succ, List.getElem?_cons_zero, List.getElem?_cons_succ]
      refine ⟨?_, ?_⟩
      · as_aux_lemma =>
        intro y_ hS_ hO_ hD
        have HB_ := (hS_ (by rfl)).2.2.2.2.1
        have Q := ((hS_ (by rfl)).2.2.2.2.1).cell
        have q0 := Q 0 _ rfl
        have q1 := Q 1 _ rfl
        have q2 := Q 2 _ rfl
        have q3 := Q 3 _ rfl
        have q4 := Q 4 _ rfl
        have Qf := ((hS_ (by rfl)).2.2.2.2.1).free
        have Ql := ((hS_ (by rfl)).2.2.2.2.1).lt
        clear Q hS_ hO_ hD
        refine s_gout (b := v2_2) (V := [.int .i64 (x + d), .int .u64 (limb 0 A), .int .u64 (limb 1 A), .int .u64 (limb 2 A), .int .u64 (limb 3 A)]) [.pointer (some ⟨v2_2, 0, none⟩), .int .i64 (x + d)] (by kernel_rfl) (by kernel_rfl) (by kernel_rfl) ?_
        intro r_ hr_
        have o0_ : r_ (.tmp 37) = .pointer (some ⟨v2_2, 0, none⟩) := op_at hr_ 0 (by kernel_rfl) (by kernel_rfl)
        have o1_ : r_ (.tmp 31) = .int .i64 (x + d) := op_at hr_ 1 (by kernel_rfl) (by kernel_rfl)
        clear hr_
        rw [HB_.put_head]
        clear HB_
        go_simp; first | done | with_reducible rfl | rfl
      simp only [Act.put, planVG, List.setIfInBounds_toArray, List.set_cons_zero, List.set_cons_succ, List.getElem?_cons_zero, List.getElem?_cons_succ]
      as_aux_lemma =>
        intro w3 hS hF hD_
        change wpList _ _ _ _ _ _
        replace hS := sg_yes (by decide) hS
        obtain ⟨hk, hZ3, X1, X2, Bv2_2, Bv2_3⟩ := hS
        clear hF hD_
        clear ρ
        have hz_w3 := hk.size
        have X1l := X1.lt
        have X1f := X1.free
        have X1l1 : w.heap.size < w3.heap.size + 1 := by omega
        have X1l2 : w.heap.size < w3.heap.size + 1 + 1 := by omega
        have X1l3 : w.heap.size < w3.heap.size + 1 + 1 + 1 := by omega
        have X10 := X1.cell 0 _ rfl
        have X11 := X1.cell 1 _ rfl
        have X12 := X1.cell 2 _ rfl
        have X13 := X1.cell 3 _ rfl
        have X14 := X1.cell 4 _ rfl
        have X2l := X2.lt
        have X2f := X2.free
        have X2l1 : w.heap.size + 1 < w3.heap.size + 1 := by omega
        have X2l2 : w.heap.size + 1 < w3.heap.size + 1 + 1 := by omega
        have X2l3 : w.heap.size + 1 < w3.heap.size + 1 + 1 + 1 := by omega
        have X20 := X2.cell 0 _ rfl
        have X21 := X2.cell 1 _ rfl
        have X22 := X2.cell 2 _ rfl
        have X23 := X2.cell 3 _ rfl
        have X24 := X2.cell 4 _ rfl
        have Bv2_2l := Bv2_2.lt
        have Bv2_2f := Bv2_2.free
        have Bv2_2l1 : v2_2 < w3.heap.size + 1 := by omega
        have Bv2_2l2 : v2_2 < w3.heap.size + 1 + 1 := by omega
        have Bv2_2l3 : v2_2 < w3.heap.size + 1 + 1 + 1 := by omega
        have Bv2_20 := Bv2_2.cell 0 _ rfl
        have Bv2_21 := Bv2_2.cell 1 _ rfl
        have Bv2_22 := Bv2_2.cell 2 _ rfl
        have Bv2_23 := Bv2_2.cell 3 _ rfl
        have Bv2_24 := Bv2_2.cell 4 _ rfl
        have Bv2_3l := Bv2_3.lt
        have Bv2_3f := Bv2_3.free
        have Bv2_3l1 : v2_3 < w3.heap.size + 1 := by omega
        have Bv2_3l2 : v2_3 < w3.heap.size + 1 + 1 := by omega
        have Bv2_3l3 : v2_3 < w3.heap.size + 1 + 1 + 1 := by omega
        have Bv2_30 := Bv2_3.cell 0 _ rfl
        have Bv2_31 := Bv2_3.cell 1 _ rfl
        have Bv2_32 := Bv2_3.cell 2 _ rfl
        have Bv2_33 := Bv2_3.cell 3 _ rfl
        have Bv2_34 := Bv2_3.cell 4 _ rfl
        go_wp2
        refine wp_region_g 10 (fun W' => Kept w.heap.size w W' ∧ w3.heap.size ≤ W'.heap.size ∧ Box W' (w.heap.size) #[.int .i64 (x), .int .u64 (limb 0 A), .int .u64 (limb 1 A), .int .u64 (limb 2 A), .int .u64 (limb 3 A)] ∧ Box W' (w.heap.size + 1) #[.int .i64 (y), .int .u64 (limb 0 B), .int .u64 (limb 1 B), .int .u64 (limb 2 B), .int .u64 (limb 3 B)] ∧ Box W' (v2_2) #[.int .i64 (x + d), .int .u64 (limb 0 A), .int .u64 (limb 1 A), .int .u64 (limb 2 A), .int .u64 (limb 3 A)] ∧ Box W' (v2_3) #[.int .i64 (y + d), .int .u64 (limb 0 B), .int .u64 (limb 1 B), .int .u64 (limb 2 B), .int .u64 (limb 3 B)]) (fun W' => Kept w.heap.size w W' ∧ w3.heap.size ≤ W'.heap.size ∧ Box W' (w.heap.size) #[.int .i64 (x), .int .u64 (limb 0 A), .int .u64 (limb 1 A), .int .u64 (limb 2 A), .int .u64 (limb 3 A)] ∧ Box W' (w.heap.size + 1) #[.int .i64 (y), .int .u64 (limb 0 B), .int .u64 (limb 1 B), .int .u64 (limb 2 B), .int .u64 (limb 3 B)] ∧ Box W' (v2_2) #[.int .i64 (x + d), .int .u64 (limb 0 A), .int .u64 (limb 1 A), .int .u64 (limb 2 A), .int .u64 (limb 3 A)] ∧ Box W' (v2_3) #[.int .i64 (y + d), .int .u64 (limb 0 B), .int .u64 (limb 1 B), .int .u64 (limb 2 B), .int .u64 (limb 3 B)]) 1000 (w3.heap.size) [.known (termV x A), .known (termV y B), .known (termV l S), .known (termV (x + d) A), .known (termV (y + d) B), .known (termV (l + d) S), .var #[.int .i64 0, .int .u64 0, .int .u64 0, .int .u64 0, .int .u64 0] 8 [.int .i64 (l), .int .u64 (limb 0 S), .int .u64 (limb 1 S), .int .u64 (limb 2 S), .int .u64 (limb 3 S)], .var #[.int .i64 0, .int .u64 0, .int .u64 0, .int .u64 0, .int .u64 0] 9 [.int .i64 (l + d), .int .u64 (limb 0 S), .int .u64 (limb 1 S), .int .u64 (limb 2 S), .int .u64 (limb 3 S)], .put 6, .put 7] (by kernel_rfl) (by kernel_rfl) (fun W W' h hb => ⟨h.1.step hb, Nat.le_trans (h.2.1) hb.size, Box.call hb (h.2.2.1), Box.call hb (h.2.2.2.1), Box.call hb (h.2.2.2.2.1), Box.call hb (h.2.2.2.2.2)⟩) (fun W W' h hb => ⟨h.1.step hb, Nat.le_trans (h.2.1) hb.size, Box.call hb (h.2.2.1), Box.call hb (h.2.2.2.1), Box.call hb (h.2.2.2.2.1), Box.call hb (h.2.2.2.2.2)⟩) (no_out (of_decide_eq_true (by kernel_rfl))) (.inr (fun W' b i v hb h => ⟨h.1.setCell (p := ⟨b, i, none⟩) (by simp only []; omega) v, (by rw [World.size_setCell]; exact h.2.1), (h.2.2.1).other (by omega), (h.2.2.2.1).other (by omega), (h.2.2.2.2.1).other (by omega), (h.2.2.2.2.2).other (by omega)⟩)) (.inr (fun W' b i v hb h => ⟨h.1.setCell (p := ⟨b, i, none⟩) (by simp only []; omega) v, (by rw [World.size_setCell]; exact h.2.1), (h.2.2.1).other (by omega), (h.2.2.2.1).other (by omega), (h.2.2.2.2.1).other (by omega), (h.2.2.2.2.2).other (by omega)⟩)) (fun _ h => h.2.1) (fun _ h => h.2.1) (⟨(by repeat (first | with_reducible exact hk | with_reducible exact Kept.refl _ | with_reducible refine Kept.alloc ?_ _ | with_reducible refine Kept.drew ?_ | with_reducible refine Kept.setCell ?_ (by simp only [World.size_alloc, World.size_setCell, World.size_drew]; omega) _)), (by (try simp only [World.size_alloc, World.size_setCell, World.size_drew]); omega), (by repeat (first | with_reducible assumption | with_reducible apply Box.set10 | with_reducible apply Box.set20 | with_reducible apply Box.set21 | with_reducible apply Box.set40 | with_reducible apply Box.set41 | with_reducible apply Box.set42 | with_reducible apply Box.set43 | with_reducible apply Box.set50 | with_reducible apply Box.set51 | with_reducible apply Box.set52 | with_reducible apply Box.set53 | with_reducible apply Box.set54 | with_reducible apply Box.set80 | with_reducible apply Box.set81 | with_reducible apply Box.set82 | with_reducible apply Box.set83 | with_reducible apply Box.set84 | with_reducible apply Box.set85 | with_reducible apply Box.set86 | with_reducible apply Box.set87 | with_reducible apply Box.drew | (with_reducible apply Box.newAt; (try simp only [World.size_alloc, World.size_setCell, World.size_drew]); done) | with_reducible apply Box.alloc | (with_reducible apply Box.other; case hne => ((try simp only [World.size_alloc, World.size_setCell, World.size_drew]); omega)))), (by repeat (first | with_reducible assumption | with_reducible apply Box.set10 | with_reducible apply Box.set20 | with_reducible apply Box.set21 | with_reducible apply Box.set40 | with_reducible apply Box.set41 | with_reducible apply Box.set42 | with_reducible apply Box.set43 | with_reducible apply Box.set50 | with_reducible apply Box.set51 | with_reducible apply Box.set52 | with_reducible apply Box.set53 | with_reducible apply Box.set54 | with_reducible apply Box.set80 | with_reducible apply Box.set81 | with_reducible apply Box.set82 | with_reducible apply Box.set83 | with_reducible apply Box.set84 | with_reducible apply Box.set85 | with_reducible apply Box.set86 | with_reducible apply Box.set87 | with_reducible apply Box.drew | (with_reducible apply Box.newAt; (try simp only [World.size_alloc, World.size_setCell, World.size_drew]); done) | with_reducible apply Box.alloc | (with_reducible apply Box.other; case hne => ((try simp only [World.size_alloc, World.size_setCell, World.size_drew]); omega)))), (by repeat (first | with_reducible assumption | with_reducible apply Box.set10 | with_reducible apply Box.set20 | with_reducible apply Box.set21 | with_reducible apply Box.set40 | with_reducible apply Box.set41 | with_reducible apply Box.set42 | with_reducible apply Box.set43 | with_reducible apply Box.set50 | with_reducible apply Box.set51 | with_reducible apply Box.set52 | with_reducible apply Box.set53 | with_reducible apply Box.set54 | with_reducible apply Box.set80 | with_reducible apply Box.set81 | with_reducible apply Box.set82 | with_reducible apply Box.set83 | with_reducible apply Box.set84 | with_reducible apply Box.set85 | with_reducible apply Box.set86 | with_reducible apply Box.set87 | with_reducible apply Box.drew | (with_reducible apply Box.newAt; (try simp only [World.size_alloc, World.size_setCell, World.size_drew]); done) | with_reducible apply Box.alloc | (with_reducible apply Box.other; case hne => ((try simp only [World.size_alloc, World.size_setCell, World.size_drew]); omega)))), (by repeat (first | with_reducible assumption | with_reducible apply Box.set10 | with_reducible apply Box.set20 | with_reducible apply Box.set21 | with_reducible apply Box.set40 | with_reducible apply Box.set41 | with_reducible apply Box.set42 | with_reducible apply Box.set43 | with_reducible apply Box.set50 | with_reducible apply Box.set51 | with_reducible apply Box.set52 | with_reducible apply Box.set53 | with_reducible apply Box.set54 | with_reducible apply Box.set80 | with_reducible apply Box.set81 | with_reducible apply Box.set82 | with_reducible apply Box.set83 | with_reducible apply Box.set84 | with_reducible apply Box.set85 | with_reducible apply Box.set86 | with_reducible apply Box.set87 | with_reducible apply Box.drew | (with_reducible apply Box.newAt; (try simp only [World.size_alloc, World.size_setCell, World.size_drew]); done) | with_reducible apply Box.alloc | (with_reducible apply Box.other; case hne => ((try simp only [World.size_alloc, World.size_setCell, World.size_drew]); omega))))⟩) ?_
        clear hk
        clear X1 X1l1 X1l2 X1l3 X1f X10 X11 X12 X13 X14
        clear X2 X2l1 X2l2 X2l3 X2f X20 X21 X22 X23 X24
        clear Bv2_2 Bv2_2l1 Bv2_2l2 Bv2_2l3 Bv2_2f Bv2_20 Bv2_21 Bv2_22 Bv2_23 Bv2_24
        clear Bv2_3 Bv2_3l1 Bv2_3l2 Bv2_3l3 Bv2_3f Bv2_30 Bv2_31 Bv2_32 Bv2_33 Bv2_34
        intro ρ
        simp only [List.take_succ_cons, List.take_zero, List.drop_succ_cons, List.drop_zero]
        refine ⟨?_, ?_⟩
        · as_aux_lemma =>
          intro y_ hS_ hO_ hD
          have Q := ((hS_ (by rfl)).2.2.1).cell
          have q0 := Q 0 _ rfl
          have q1 := Q 1 _ rfl
          have q2 := Q 2 _ rfl
          have q3 := Q 3 _ rfl
          have q4 := Q 4 _ rfl
          clear Q hS_ hO_ hD
          refine s_gen (V := termV x A) [.pointer (some ⟨w.heap.size, 0, none⟩)] (by kernel_rfl) (by kernel_rfl) (by kernel_rfl) ?_
          intro r_ hr_
          have o0_ : r_ (.tmp 3) = .pointer (some ⟨w.heap.size, 0, none⟩) := op_at hr_ 0 (by kernel_rfl) (by kernel_rfl)
          clear hr_
          go_simp; first | done | with_reducible rfl
        simp only [Act.put, planVG, List.setIfInBounds_toArray, List.set_cons_zero, List.set_cons_succ, List.getElem?_cons_zero, List.getElem?_cons_succ]
        refine ⟨?_, ?_⟩
        · as_aux_lemma =>
          intro y_ hS_ hO_ hD
          have Q := ((hS_ (by rfl)).2.2.2.1).cell
          have q0 := Q 0 _ rfl
          have q1 := Q 1 _ rfl
          have q2 := Q 2 _ rfl
          have q3 := Q 3 _ rfl
          have q4 := Q 4 _ rfl
          clear Q hS_ hO_ hD
          refine s_gen (V := termV y B) [.pointer (some ⟨w.heap.size + 1, 0, none⟩)] (by kernel_rfl) (by kernel_rfl) (by kernel_rfl) ?_
          intro r_ hr_
          have o0_ : r_ (.tmp 4) = .pointer (some ⟨w.heap.size + 1, 0, none⟩) := op_at hr_ 0 (by kernel_rfl) (by kernel_rfl)
          clear hr_
          go_simp; first | done | with_reducible rfl
        simp only [Act.put, planVG, List.setIfInBounds_toArray, List.set_cons_zero, List.set_cons_succ, List.getElem?_cons_zero, List.getElem?_cons_succ]
        refine ⟨?_, ?_⟩
        · as_aux_lemma =>
          intro y_ hS_ hO_ hD
          try clear hS
          clear hS_ hO_ hD
          refine s_gcall (V := termV l S) [.func (.func 47) #[] #[], termV x A, termV y B] ?_ ?_ (by kernel_rfl) (by kernel_rfl) (by kernel_rfl) ?_ ?_
          rotate_left 2
          · intro r_ hr_
            have o0_ : r_ (.func 47) = .func (.func 47) #[] #[] := op_at hr_ 0 (by kernel_rfl) (by kernel_rfl)
            have o1_ : r_ (.tmp 39) = termV x A := op_at hr_ 1 (by kernel_rfl) (by kernel_rfl)
            have o2_ : r_ (.tmp 40) = termV y B := op_at hr_ 2 (by kernel_rfl) (by kernel_rfl)
            clear hr_
            go_simp; first | done | with_reducible rfl | (constructor <;> with_reducible rfl)
          · refine H1.out _
        simp only [Act.put, planVG, List.setIfInBounds_toArray, List.set_cons_zero, List.set_cons_succ, List.getElem?_cons_zero, List.getElem?_cons_succ]
        refine ⟨?_, ?_⟩
        · as_aux_lemma =>
          intro y_ hS_ hO_ hD
          have Q := ((hS_ (by rfl)).2.2.2.2.1).cell
          have q0 := Q 0 _ rfl
          have q1 := Q 1 _ rfl
          have q2 := Q 2 _ rfl
          have q3 := Q 3 _ rfl
          have q4 := Q 4 _ rfl
          clear Q hS_ hO_ hD
          refine s_gen (V := termV (x + d) A) [.pointer (some ⟨v2_2, 0, none⟩)] (by kernel_rfl) (by kernel_rfl) (by kernel_rfl) ?_
          intro r_ hr_
          have o0_ : r_ (.tmp 7) = .pointer (some ⟨v2_2, 0, none⟩) := op_at hr_ 0 (by kernel_rfl) (by kernel_rfl)
          clear hr_
          go_simp; first | done | with_reducible rfl
        simp only [Act.put, planVG, List.setIfInBounds_toArray, List.set_cons_zero, List.set_cons_succ, List.getElem?_cons_zero, List.getElem?_cons_succ]
        refine ⟨?_, ?_⟩
        · as_aux_lemma =>
          intro y_ hS_ hO_ hD
          have Q := ((hS_ (by rfl)).2.2.2.2.2).cell
          have q0 := Q 0 _ rfl
          have q1 := Q 1 _ rfl
          have q2 := Q 2 _ rfl
          have q3 := Q 3 _ rfl
          have q4 := Q 4 _ rfl
          clear Q hS_ hO_ hD
          refine s_gen (V := termV (y + d) B) [.pointer (some ⟨v2_3, 0, none⟩)] (by kernel_rfl) (by kernel_rfl) (by kernel_rfl) ?_
          intro r_ hr_
          have o0_ : r_ (.tmp 8) = .pointer (some ⟨v2_3, 0, none⟩) := op_at hr_ 0 (by kernel_rfl) (by kernel_rfl)
          clear hr_
          go_simp; first | done | with_reducible rfl
        simp only [Act.put, planVG, List.setIfInBounds_toArray, List.set_cons_zero, List.set_cons_succ, List.getElem?_cons_zero, List.getElem?_cons_succ]
        refine ⟨?_, ?_⟩
        · as_aux_lemma =>
          intro y_ hS_ hO_ hD
          try clear hS
          clear hS_ hO_ hD
          refine s_gcall (V := termV (l + d) S) [.func (.func 47) #[] #[], termV (x + d) A, termV (y + d) B] ?_ ?_ (by kernel_rfl) (by kernel_rfl) (by kernel_rfl) ?_ ?_
          rotate_left 2
          · intro r_ hr_
            have o0_ : r_ (.func 47) = .func (.func 47) #[] #[] := op_at hr_ 0 (by kernel_rfl) (by kernel_rfl)
            have o1_ : r_ (.tmp 42) = termV (x + d) A := op_at hr_ 1 (by kernel_rfl) (by kernel_rfl)
            have o2_ : r_ (.tmp 43) = termV (y + d) B := op_at hr_ 2 (by kernel_rfl) (by kernel_rfl)
            clear hr_
            go_simp; first | done | with_reducible rfl | (constructor <;> with_reducible rfl)
          · refine H2.out _
        simp only [Act.put, planVG, List.setIfInBounds_toArray, List.set_cons_zero, List.set_cons_succ, List.getElem?_cons_zero, List.getElem?_cons_succ]
        refine ⟨?_, ?_⟩
        · as_aux_lemma =>
          intro y_ hS_ hO_ hD
          clear hS_ hO_ hD
          refine s_alloc (by rfl) (by rfl) ?_
          simp only [allocTy]
          go_simp; first | done | with_reducible rfl | rfl
        simp only [Act.put, planVG, List.setIfInBounds_toArray, List.set_cons_zero, List.set_cons_succ, List.getElem?_cons_zero, List.getElem?_cons_succ]
        refine ⟨?_, ?_⟩
        · as_aux_lemma =>
          intro y_ hS_ hO_ hD
          clear hS_ hO_ hD
          refine s_alloc (by rfl) (by rfl) ?_
          simp only [allocTy]
          go_simp; first | done | with_reducible rfl | rfl
        simp only [Act.put, planVG, List.setIfInBounds_toArray, List.set_cons_zero, List.set_cons_succ, List.getElem?_cons_zero, List.getElem?_cons_succ]
        refine ⟨?_, ?_⟩
        · as_aux_lemma =>
          intro y_ hS_ hO_ hD
          have hS := hS_ (by rfl)
          clear hS hS_ hO_ hD
          refine s_gput (j := 6) (Z := #[.int .i64 0, .int .u64 0, .int .u64 0, .int .u64 0, .int .u64 0]) (V := [.int .i64 (l), .int .u64 (limb 0 S), .int .u64 (limb 1 S), .int .u64 (limb 2 S), .int .u64 (limb 3 S)]) [ρ 6, termV l S] (by kernel_rfl) (by kernel_rfl) (by kernel_rfl) (by kernel_rfl) ?_
          intro r_ b hr_ hb hB F
          have o0_ : r_ (.tmp 9) = ρ 6 := op_at hr_ 0 (by kernel_rfl) (by kernel_rfl)
          have o1_ : r_ (.tmp 41) = termV l S := op_at hr_ 1 (by kernel_rfl) (by kernel_rfl)
          clear hr_
          rw [hb] at o0_
          have Q := F.cell
          have q0 := Q 0 _ rfl
          have q1 := Q 1 _ rfl
          have q2 := Q 2 _ rfl
          have q3 := Q 3 _ rfl
          have q4 := Q 4 _ rfl
          have Qf := F.free
          have Ql := F.lt
          clear Q F
          simp only [putCells]
          go_simp; first | done | with_reducible rfl | rfl
        simp only [Act.put, planVG, List.setIfInBounds_toArray, List.set_cons_zero, List.set_cons_succ, List.getElem?_cons_zero, List.getElem?_cons_succ]
        refine ⟨?_, ?_⟩
        · as_aux_lemma =>
          intro y_ hS_ hO_ hD
          have hS := hS_ (by rfl)
          clear hS hS_ hO_ hD
          refine s_gput (j := 7) (Z := #[.int .i64 0, .int .u64 0, .int .u64 0, .int .u64 0, .int .u64 0]) (V := [.int .i64 (l + d), .int .u64 (limb 0 S), .int .u64 (limb 1 S), .int .u64 (limb 2 S), .int .u64 (limb 3 S)]) [ρ 7, termV (l + d) S] (by kernel_rfl) (by kernel_rfl) (by kernel_rfl) (by kernel_rfl) ?_
          intro r_ b hr_ hb hB F
          have o0_ : r_ (.tmp 10) = ρ 7 := op_at hr_ 0 (by kernel_rfl) (by kernel_rfl)
          have o1_ : r_ (.tmp 44) = termV (l + d) S := op_at hr_ 1 (by kernel_rfl) (by kernel_rfl)
          clear hr_
          rw [hb] at o0_
          have Q := F.cell
          have q0 := Q 0 _ rfl
          have q1 := Q 1 _ rfl
          have q2 := Q 2 _ rfl
          have q3 := Q 3 _ rfl
          have q4 := Q 4 _ rfl
          have Qf := F.free
          have Ql := F.lt
          clear Q F
          simp only [putCells]
          go_simp; first | done | with_reducible rfl | rfl
        simp only [Act.put, planVG, List.setIfInBounds_toArray, List.set_cons_zero, List.set_cons_succ, List.getElem?_cons_zero, List.getElem?_cons_succ]
        as_aux_lemma =>
          intro w4 hS hF hD_
          change wpList _ _ _ _ _ _
          replace hS := sg_no (by decide) hS
          obtain ⟨hk, hZ4, X1, X2, Bv2_2, Bv2_3⟩ := hS
          obtain ⟨v4_6, e_v4_6, hv4_6, Bv4_6⟩ : ∃ b, ρ 6 = .pointer (some ⟨b, 0, none⟩) ∧ w3.heap.size ≤ b ∧ Box w4 b #[.int .i64 (l), .int .u64 (limb 0 S), .int .u64 (limb 1 S), .int .u64 (limb 2 S), .int .u64 (limb 3 S)] := by
            obtain ⟨b, h1, h2, h3⟩ := hF 6 (by decide)
            exact ⟨b, h1, h2, h3.lt, h3.cell, h3.free⟩
          obtain ⟨v4_7, e_v4_7, hv4_7, Bv4_7⟩ : ∃ b, ρ 7 = .pointer (some ⟨b, 0, none⟩) ∧ w3.heap.size ≤ b ∧ Box w4 b #[.int .i64 (l + d), .int .u64 (limb 0 S), .int .u64 (limb 1 S), .int .u64 (limb 2 S), .int .u64 (limb 3 S)] := by
            obtain ⟨b, h1, h2, h3⟩ := hF 7 (by decide)
            exact ⟨b, h1, h2, h3.lt, h3.cell, h3.free⟩
          have nv4_6_v4_7 : ¬ v4_6 = v4_7 := fun h => hD_ 6 7 (by decide) (by decide) (by decide) (by rfl) (by rfl) (by rw [e_v4_6, e_v4_7, h])
          have nv4_7_v4_6 : ¬ v4_7 = v4_6 := fun h => nv4_6_v4_7 h.symm
          clear hF hD_
          simp only [e_v4_6]
          clear e_v4_6
          simp only [e_v4_7]
          clear e_v4_7
          clear ρ
          have hz_w4 := hk.size
          have X1l := X1.lt
          have X1f := X1.free
          have X1l1 : w.heap.size < w4.heap.size + 1 := by omega
          have X1l2 : w.heap.size < w4.heap.size + 1 + 1 := by omega
          have X1l3 : w.heap.size < w4.heap.size + 1 + 1 + 1 := by omega
          have X10 := X1.cell 0 _ rfl
          have X11 := X1.cell 1 _ rfl
          have X12 := X1.cell 2 _ rfl
          have X13 := X1.cell 3 _ rfl
          have X14 := X1.cell 4 _ rfl
          have X2l := X2.lt
          have X2f := X2.free
          have X2l1 : w.heap.size + 1 < w4.heap.size + 1 := by omega
          have X2l2 : w.heap.size + 1 < w4.heap.size + 1 + 1 := by omega
          have X2l3 : w.heap.size + 1 < w4.heap.size + 1 + 1 + 1 := by omega
          have X20 := X2.cell 0 _ rfl
          have X21 := X2.cell 1 _ rfl
          have X22 := X2.cell 2 _ rfl
          have X23 := X2.cell 3 _ rfl
          have X24 := X2.cell 4 _ rfl
          have Bv2_2l := Bv2_2.lt
          have Bv2_2f := Bv2_2.free
          have Bv2_2l1 : v2_2 < w4.heap.size + 1 := by omega
          have Bv2_2l2 : v2_2 < w4.heap.size + 1 + 1 := by omega
          have Bv2_2l3 : v2_2 < w4.heap.size + 1 + 1 + 1 := by omega
          have Bv2_20 := Bv2_2.cell 0 _ rfl
          have Bv2_21 := Bv2_2.cell 1 _ rfl
          have Bv2_22 := Bv2_2.cell 2 _ rfl
          have Bv2_23 := Bv2_2.cell 3 _ rfl
          have Bv2_24 := Bv2_2.cell 4 _ rfl
          have Bv2_3l := Bv2_3.lt
          have Bv2_3f := Bv2_3.free
          have Bv2_3l1 : v2_3 < w4.heap.size + 1 := by omega
          have Bv2_3l2 : v2_3 < w4.heap.size + 1 + 1 := by omega
          have Bv2_3l3 : v2_3 < w4.heap.size + 1 + 1 + 1 := by omega
          have Bv2_30 := Bv2_3.cell 0 _ rfl
          have Bv2_31 := Bv2_3.cell 1 _ rfl
          have Bv2_32 := Bv2_3.cell 2 _ rfl
          have Bv2_33 := Bv2_3.cell 3 _ rfl
          have Bv2_34 := Bv2_3.cell 4 _ rfl
          have Bv4_6l := Bv4_6.lt
          have Bv4_6f := Bv4_6.free
          have Bv4_6l1 : v4_6 < w4.heap.size + 1 := by omega
          have Bv4_6l2 : v4_6 < w4.heap.size + 1 + 1 := by omega
          have Bv4_6l3 : v4_6 < w4.heap.size + 1 + 1 + 1 := by omega
          have Bv4_60 := Bv4_6.cell 0 _ rfl
          have Bv4_61 := Bv4_6.cell 1 _ rfl
          have Bv4_62 := Bv4_6.cell 2 _ rfl
          have Bv4_63 := Bv4_6.cell 3 _ rfl
          have Bv4_64 := Bv4_6.cell 4 _ rfl
          have Bv4_7l := Bv4_7.lt
          have Bv4_7f := Bv4_7.free
          have Bv4_7l1 : v4_7 < w4.heap.size + 1 := by omega
          have Bv4_7l2 : v4_7 < w4.heap.size + 1 + 1 := by omega
          have Bv4_7l3 : v4_7 < w4.heap.size + 1 + 1 + 1 := by omega
          have Bv4_70 := Bv4_7.cell 0 _ rfl
          have Bv4_71 := Bv4_7.cell 1 _ rfl
          have Bv4_72 := Bv4_7.cell 2 _ rfl
          have Bv4_73 := Bv4_7.cell 3 _ rfl
          have Bv4_74 := Bv4_7.cell 4 _ rfl
          go_wp2_with fail
          (with_reducible refine (H3.out _).mono ?_)
          rintro e w5 ⟨rfl, hb⟩
          have X1' : Box w5 (w.heap.size) #[.int .i64 (x), .int .u64 (limb 0 A), .int .u64 (limb 1 A), .int .u64 (limb 2 A), .int .u64 (limb 3 A)] := Box.call hb (by repeat (first | with_reducible assumption | with_reducible apply Box.set10 | with_reducible apply Box.set20 | with_reducible apply Box.set21 | with_reducible apply Box.set40 | with_reducible apply Box.set41 | with_reducible apply Box.set42 | with_reducible apply Box.set43 | with_reducible apply Box.set50 | with_reducible apply Box.set51 | with_reducible apply Box.set52 | with_reducible apply Box.set53 | with_reducible apply Box.set54 | with_reducible apply Box.set80 | with_reducible apply Box.set81 | with_reducible apply Box.set82 | with_reducible apply Box.set83 | with_reducible apply Box.set84 | with_reducible apply Box.set85 | with_reducible apply Box.set86 | with_reducible apply Box.set87 | with_reducible apply Box.drew | (with_reducible apply Box.newAt; (try simp only [World.size_alloc, World.size_setCell, World.size_drew]); done) | with_reducible apply Box.alloc | (with_reducible apply Box.other; case hne => ((try simp only [World.size_alloc, World.size_setCell, World.size_drew]); omega))))
          have X2' : Box w5 (w.heap.size + 1) #[.int .i64 (y), .int .u64 (limb 0 B), .int .u64 (limb 1 B), .int .u64 (limb 2 B), .int .u64 (limb 3 B)] := Box.call hb (by repeat (first | with_reducible assumption | with_reducible apply Box.set10 | with_reducible apply Box.set20 | with_reducible apply Box.set21 | with_reducible apply Box.set40 | with_reducible apply Box.set41 | with_reducible apply Box.set42 | with_reducible apply Box.set43 | with_reducible apply Box.set50 | with_reducible apply Box.set51 | with_reducible apply Box.set52 | with_reducible apply Box.set53 | with_reducible apply Box.set54 | with_reducible apply Box.set80 | with_reducible apply Box.set81 | with_reducible apply Box.set82 | with_reducible apply Box.set83 | with_reducible apply Box.set84 | with_reducible apply Box.set85 | with_reducible apply Box.set86 | with_reducible apply Box.set87 | with_reducible apply Box.drew | (with_reducible apply Box.newAt; (try simp only [World.size_alloc, World.size_setCell, World.size_drew]); done) | with_reducible apply Box.alloc | (with_reducible apply Box.other; case hne => ((try simp only [World.size_alloc, World.size_setCell, World.size_drew]); omega))))
          have Bv2_2' : Box w5 (v2_2) #[.int .i64 (x + d), .int .u64 (limb 0 A), .int .u64 (limb 1 A), .int .u64 (limb 2 A), .int .u64 (limb 3 A)] := Box.call hb (by repeat (first | with_reducible assumption | with_reducible apply Box.set10 | with_reducible apply Box.set20 | with_reducible apply Box.set21 | with_reducible apply Box.set40 | with_reducible apply Box.set41 | with_reducible apply Box.set42 | with_reducible apply Box.set43 | with_reducible apply Box.set50 | with_reducible apply Box.set51 | with_reducible apply Box.set52 | with_reducible apply Box.set53 | with_reducible apply Box.set54 | with_reducible apply Box.set80 | with_reducible apply Box.set81 | with_reducible apply Box.set82 | with_reducible apply Box.set83 | with_reducible apply Box.set84 | with_reducible apply Box.set85 | with_reducible apply Box.set86 | with_reducible apply Box.set87 | with_reducible apply Box.drew | (with_reducible apply Box.newAt; (try simp only [World.size_alloc, World.size_setCell, World.size_drew]); done) | with_reducible apply Box.alloc | (with_reducible apply Box.other; case hne => ((try simp only [World.size_alloc, World.size_setCell, World.size_drew]); omega))))
          have Bv2_3' : Box w5 (v2_3) #[.int .i64 (y + d), .int .u64 (limb 0 B), .int .u64 (limb 1 B), .int .u64 (limb 2 B), .int .u64 (limb 3 B)] := Box.call hb (by repeat (first | with_reducible assumption | with_reducible apply Box.set10 | with_reducible apply Box.set20 | with_reducible apply Box.set21 | with_reducible apply Box.set40 | with_reducible apply Box.set41 | with_reducible apply Box.set42 | with_reducible apply Box.set43 | with_reducible apply Box.set50 | with_reducible apply Box.set51 | with_reducible apply Box.set52 | with_reducible apply Box.set53 | with_reducible apply Box.set54 | with_reducible apply Box.set80 | with_reducible apply Box.set81 | with_reducible apply Box.set82 | with_reducible apply Box.set83 | with_reducible apply Box.set84 | with_reducible apply Box.set85 | with_reducible apply Box.set86 | with_reducible apply Box.set87 | with_reducible apply Box.drew | (with_reducible apply Box.newAt; (try simp only [World.size_alloc, World.size_setCell, World.size_drew]); done) | with_reducible apply Box.alloc | (with_reducible apply Box.other; case hne => ((try simp only [World.size_alloc, World.size_setCell, World.size_drew]); omega))))
          have Bv4_6' : Box w5 (v4_6) #[.int .i64 (l), .int .u64 (limb 0 S), .int .u64 (limb 1 S), .int .u64 (limb 2 S), .int .u64 (limb 3 S)] := Box.call hb (by repeat (first | with_reducible assumption | with_reducible apply Box.set10 | with_reducible apply Box.set20 | with_reducible apply Box.set21 | with_reducible apply Box.set40 | with_reducible apply Box.set41 | with_reducible apply Box.set42 | with_reducible apply Box.set43 | with_reducible apply Box.set50 | with_reducible apply Box.set51 | with_reducible apply Box.set52 | with_reducible apply Box.set53 | with_reducible apply Box.set54 | with_reducible apply Box.set80 | with_reducible apply Box.set81 | with_reducible apply Box.set82 | with_reducible apply Box.set83 | with_reducible apply Box.set84 | with_reducible apply Box.set85 | with_reducible apply Box.set86 | with_reducible apply Box.set87 | with_reducible apply Box.drew | (with_reducible apply Box.newAt; (try simp only [World.size_alloc, World.size_setCell, World.size_drew]); done) | with_reducible apply Box.alloc | (with_reducible apply Box.other; case hne => ((try simp only [World.size_alloc, World.size_setCell, World.size_drew]); omega))))
          have Bv4_7' : Box w5 (v4_7) #[.int .i64 (l + d), .int .u64 (limb 0 S), .int .u64 (limb 1 S), .int .u64 (limb 2 S), .int .u64 (limb 3 S)] := Box.call hb (by repeat (first | with_reducible assumption | with_reducible apply Box.set10 | with_reducible apply Box.set20 | with_reducible apply Box.set21 | with_reducible apply Box.set40 | with_reducible apply Box.set41 | with_reducible apply Box.set42 | with_reducible apply Box.set43 | with_reducible apply Box.set50 | with_reducible apply Box.set51 | with_reducible apply Box.set52 | with_reducible apply Box.set53 | with_reducible apply Box.set54 | with_reducible apply Box.set80 | with_reducible apply Box.set81 | with_reducible apply Box.set82 | with_reducible apply Box.set83 | with_reducible apply Box.set84 | with_reducible apply Box.set85 | with_reducible apply Box.set86 | with_reducible apply Box.set87 | with_reducible apply Box.drew | (with_reducible apply Box.newAt; (try simp only [World.size_alloc, World.size_setCell, World.size_drew]); done) | with_reducible apply Box.alloc | (with_reducible apply Box.other; case hne => ((try simp only [World.size_alloc, World.size_setCell, World.size_drew]); omega))))
          have hk' : Kept w.heap.size w w5 := Kept.step (by repeat (first | with_reducible exact hk | with_reducible exact Kept.refl _ | with_reducible refine Kept.alloc ?_ _ | with_reducible refine Kept.drew ?_ | with_reducible refine Kept.setCell ?_ (by simp only [World.size_alloc, World.size_setCell, World.size_drew]; omega) _)) hb
          clear hk hb
          clear X1 X1l1 X1l2 X1l3 X1f X10 X11 X12 X13 X14
          clear X2 X2l1 X2l2 X2l3 X2f X20 X21 X22 X23 X24
          clear Bv2_2 Bv2_2l1 Bv2_2l2 Bv2_2l3 Bv2_2f Bv2_20 Bv2_21 Bv2_22 Bv2_23 Bv2_24
          clear Bv2_3 Bv2_3l1 Bv2_3l2 Bv2_3l3 Bv2_3f Bv2_30 Bv2_31 Bv2_32 Bv2_33 Bv2_34
          clear Bv4_6 Bv4_6l1 Bv4_6l2 Bv4_6l3 Bv4_6f Bv4_60 Bv4_61 Bv4_62 Bv4_63 Bv4_64
          clear Bv4_7 Bv4_7l1 Bv4_7l2 Bv4_7l3 Bv4_7f Bv4_70 Bv4_71 Bv4_72 Bv4_73 Bv4_74
          have X1 := X1'
          clear X1'
          have X2 := X2'
          clear X2'
          have Bv2_2 := Bv2_2'
          clear Bv2_2'
          have Bv2_3 := Bv2_3'
          clear Bv2_3'
          have Bv4_6 := Bv4_6'
          clear Bv4_6'
          have Bv4_7 := Bv4_7'
          clear Bv4_7'
          have hk := hk'
          clear hk'
          have hz_w5 := hk.size
          have X1l := X1.lt
          have X1f := X1.free
          have X1l1 : w.heap.size < w5.heap.size + 1 := by omega
          have X1l2 : w.heap.size < w5.heap.size + 1 + 1 := by omega
          have X1l3 : w.heap.size < w5.heap.size + 1 + 1 + 1 := by omega
          have X10 := X1.cell 0 _ rfl
          have X11 := X1.cell 1 _ rfl
          have X12 := X1.cell 2 _ rfl
          have X13 := X1.cell 3 _ rfl
          have X14 := X1.cell 4 _ rfl
          have X2l := X2.lt
          have X2f := X2.free
          have X2l1 : w.heap.size + 1 < w5.heap.size + 1 := by omega
          have X2l2 : w.heap.size + 1 < w5.heap.size + 1 + 1 := by omega
          have X2l3 : w.heap.size + 1 < w5.heap.size + 1 + 1 + 1 := by omega
          have X20 := X2.cell 0 _ rfl
          have X21 := X2.cell 1 _ rfl
          have X22 := X2.cell 2 _ rfl
          have X23 := X2.cell 3 _ rfl
          have X24 := X2.cell 4 _ rfl
          have Bv2_2l := Bv2_2.lt
          have Bv2_2f := Bv2_2.free
          have Bv2_2l1 : v2_2 < w5.heap.size + 1 := by omega
          have Bv2_2l2 : v2_2 < w5.heap.size + 1 + 1 := by omega
          have Bv2_2l3 : v2_2 < w5.heap.size + 1 + 1 + 1 := by omega
          have Bv2_20 := Bv2_2.cell 0 _ rfl
          have Bv2_21 := Bv2_2.cell 1 _ rfl
          have Bv2_22 := Bv2_2.cell 2 _ rfl
          have Bv2_23 := Bv2_2.cell 3 _ rfl
          have Bv2_24 := Bv2_2.cell 4 _ rfl
          have Bv2_3l := Bv2_3.lt
          have Bv2_3f := Bv2_3.free
          have Bv2_3l1 : v2_3 < w5.heap.size + 1 := by omega
          have Bv2_3l2 : v2_3 < w5.heap.size + 1 + 1 := by omega
          have Bv2_3l3 : v2_3 < w5.heap.size + 1 + 1 + 1 := by omega
          have Bv2_30 := Bv2_3.cell 0 _ rfl
          have Bv2_31 := Bv2_3.cell 1 _ rfl
          have Bv2_32 := Bv2_3.cell 2 _ rfl
          have Bv2_33 := Bv2_3.cell 3 _ rfl
          have Bv2_34 := Bv2_3.cell 4 _ rfl
          have Bv4_6l := Bv4_6.lt
          have Bv4_6f := Bv4_6.free
          have Bv4_6l1 : v4_6 < w5.heap.size + 1 := by omega
          have Bv4_6l2 : v4_6 < w5.heap.size + 1 + 1 := by omega
          have Bv4_6l3 : v4_6 < w5.heap.size + 1 + 1 + 1 := by omega
          have Bv4_60 := Bv4_6.cell 0 _ rfl
          have Bv4_61 := Bv4_6.cell 1 _ rfl
          have Bv4_62 := Bv4_6.cell 2 _ rfl
          have Bv4_63 := Bv4_6.cell 3 _ rfl
          have Bv4_64 := Bv4_6.cell 4 _ rfl
          have Bv4_7l := Bv4_7.lt
          have Bv4_7f := Bv4_7.free
          have Bv4_7l1 : v4_7 < w5.heap.size + 1 := by omega
          have Bv4_7l2 : v4_7 < w5.heap.size + 1 + 1 := by omega
          have Bv4_7l3 : v4_7 < w5.heap.size + 1 + 1 + 1 := by omega
          have Bv4_70 := Bv4_7.cell 0 _ rfl
          have Bv4_71 := Bv4_7.cell 1 _ rfl
          have Bv4_72 := Bv4_7.cell 2 _ rfl
          have Bv4_73 := Bv4_7.cell 3 _ rfl
          have Bv4_74 := Bv4_7.cell 4 _ rfl
          go_wp2_with fail
          (with_reducible refine (H4.out _).mono ?_)
          rintro e w6 ⟨rfl, hb⟩
          have X1' : Box w6 (w.heap.size) #[.int .i64 (x), .int .u64 (limb 0 A), .int .u64 (limb 1 A), .int .u64 (limb 2 A), .int .u64 (limb 3 A)] := Box.call hb (by repeat (first | with_reducible assumption | with_reducible apply Box.set10 | with_reducible apply Box.set20 | with_reducible apply Box.set21 | with_reducible apply Box.set40 | with_reducible apply Box.set41 | with_reducible apply Box.set42 | with_reducible apply Box.set43 | with_reducible apply Box.set50 | with_reducible apply Box.set51 | with_reducible apply Box.set52 | with_reducible apply Box.set53 | with_reducible apply Box.set54 | with_reducible apply Box.set80 | with_reducible apply Box.set81 | with_reducible apply Box.set82 | with_reducible apply Box.set83 | with_reducible apply Box.set84 | with_reducible apply Box.set85 | with_reducible apply Box.set86 | with_reducible apply Box.set87 | with_reducible apply Box.drew | (with_reducible apply Box.newAt; (try simp only [World.size_alloc, World.size_setCell, World.size_drew]); done) | with_reducible apply Box.alloc | (with_reducible apply Box.other; case hne => ((try simp only [World.size_alloc, World.size_setCell, World.size_drew]); omega))))
          have X2' : Box w6 (w.heap.size + 1) #[.int .i64 (y), .int .u64 (limb 0 B), .int .u64 (limb 1 B), .int .u64 (limb 2 B), .int .u64 (limb 3 B)] := Box.call hb (by repeat (first | with_reducible assumption | with_reducible apply Box.set10 | with_reducible apply Box.set20 | with_reducible apply Box.set21 | with_reducible apply Box.set40 | with_reducible apply Box.set41 | with_reducible apply Box.set42 | with_reducible apply Box.set43 | with_reducible apply Box.set50 | with_reducible apply Box.set51 | with_reducible apply Box.set52 | with_reducible apply Box.set53 | with_reducible apply Box.set54 | with_reducible apply Box.set80 | with_reducible apply Box.set81 | with_reducible apply Box.set82 | with_reducible apply Box.set83 | with_reducible apply Box.set84 | with_reducible apply Box.set85 | with_reducible apply Box.set86 | with_reducible apply Box.set87 | with_reducible apply Box.drew | (with_reducible apply Box.newAt; (try simp only [World.size_alloc, World.size_setCell, World.size_drew]); done) | with_reducible apply Box.alloc | (with_reducible apply Box.other; case hne => ((try simp only [World.size_alloc, World.size_setCell, World.size_drew]); omega))))
          have Bv2_2' : Box w6 (v2_2) #[.int .i64 (x + d), .int .u64 (limb 0 A), .int .u64 (limb 1 A), .int .u64 (limb 2 A), .int .u64 (limb 3 A)] := Box.call hb (by repeat (first | with_reducible assumption | with_reducible apply Box.set10 | with_reducible apply Box.set20 | with_reducible apply Box.set21 | with_reducible apply Box.set40 | with_reducible apply Box.set41 | with_reducible apply Box.set42 | with_reducible apply Box.set43 | with_reducible apply Box.set50 | with_reducible apply Box.set51 | with_reducible apply Box.set52 | with_reducible apply Box.set53 | with_reducible apply Box.set54 | with_reducible apply Box.set80 | with_reducible apply Box.set81 | with_reducible apply Box.set82 | with_reducible apply Box.set83 | with_reducible apply Box.set84 | with_reducible apply Box.set85 | with_reducible apply Box.set86 | with_reducible apply Box.set87 | with_reducible apply Box.drew | (with_reducible apply Box.newAt; (try simp only [World.size_alloc, World.size_setCell, World.size_drew]); done) | with_reducible apply Box.alloc | (with_reducible apply Box.other; case hne => ((try simp only [World.size_alloc, World.size_setCell, World.size_drew]); omega))))
          have Bv2_3' : Box w6 (v2_3) #[.int .i64 (y + d), .int .u64 (limb 0 B), .int .u64 (limb 1 B), .int .u64 (limb 2 B), .int .u64 (limb 3 B)] := Box.call hb (by repeat (first | with_reducible assumption | with_reducible apply Box.set10 | with_reducible apply Box.set20 | with_reducible apply Box.set21 | with_reducible apply Box.set40 | with_reducible apply Box.set41 | with_reducible apply Box.set42 | with_reducible apply Box.set43 | with_reducible apply Box.set50 | with_reducible apply Box.set51 | with_reducible apply Box.set52 | with_reducible apply Box.set53 | with_reducible apply Box.set54 | with_reducible apply Box.set80 | with_reducible apply Box.set81 | with_reducible apply Box.set82 | with_reducible apply Box.set83 | with_reducible apply Box.set84 | with_reducible apply Box.set85 | with_reducible apply Box.set86 | with_reducible apply Box.set87 | with_reducible apply Box.drew | (with_reducible apply Box.newAt; (try simp only [World.size_alloc, World.size_setCell, World.size_drew]); done) | with_reducible apply Box.alloc | (with_reducible apply Box.other; case hne => ((try simp only [World.size_alloc, World.size_setCell, World.size_drew]); omega))))
          have Bv4_6' : Box w6 (v4_6) #[.int .i64 (l), .int .u64 (limb 0 S), .int .u64 (limb 1 S), .int .u64 (limb 2 S), .int .u64 (limb 3 S)] := Box.call hb (by repeat (first | with_reducible assumption | with_reducible apply Box.set10 | with_reducible apply Box.set20 | with_reducible apply Box.set21 | with_reducible apply Box.set40 | with_reducible apply Box.set41 | with_reducible apply Box.set42 | with_reducible apply Box.set43 | with_reducible apply Box.set50 | with_reducible apply Box.set51 | with_reducible apply Box.set52 | with_reducible apply Box.set53 | with_reducible apply Box.set54 | with_reducible apply Box.set80 | with_reducible apply Box.set81 | with_reducible apply Box.set82 | with_reducible apply Box.set83 | with_reducible apply Box.set84 | with_reducible apply Box.set85 | with_reducible apply Box.set86 | with_reducible apply Box.set87 | with_reducible apply Box.drew | (with_reducible apply Box.newAt; (try simp only [World.size_alloc, World.size_setCell, World.size_drew]); done) | with_reducible apply Box.alloc | (with_reducible apply Box.other; case hne => ((try simp only [World.size_alloc, World.size_setCell, World.size_drew]); omega))))
          have Bv4_7' : Box w6 (v4_7) #[.int .i64 (l + d), .int .u64 (limb 0 S), .int .u64 (limb 1 S), .int .u64 (limb 2 S), .int .u64 (limb 3 S)] := Box.call hb (by repeat (first | with_reducible assumption | with_reducible apply Box.set10 | with_reducible apply Box.set20 | with_reducible apply Box.set21 | with_reducible apply Box.set40 | with_reducible apply Box.set41 | with_reducible apply Box.set42 | with_reducible apply Box.set43 | with_reducible apply Box.set50 | with_reducible apply Box.set51 | with_reducible apply Box.set52 | with_reducible apply Box.set53 | with_reducible apply Box.set54 | with_reducible apply Box.set80 | with_reducible apply Box.set81 | with_reducible apply Box.set82 | with_reducible apply Box.set83 | with_reducible apply Box.set84 | with_reducible apply Box.set85 | with_reducible apply Box.set86 | with_reducible apply Box.set87 | with_reducible apply Box.drew | (with_reducible apply Box.newAt; (try simp only [World.size_alloc, World.size_setCell, World.size_drew]); done) | with_reducible apply Box.alloc | (with_reducible apply Box.other; case hne => ((try simp only [World.size_alloc, World.size_setCell, World.size_drew]); omega))))
          have X3' : Box w6 (w5.heap.size) #[.int .i64 (m), .int .u64 (limb 0 T), .int .u64 (limb 1 T), .int .u64 (limb 2 T), .int .u64 (limb 3 T)] := Box.call hb (by repeat (first | with_reducible assumption | with_reducible apply Box.set10 | with_reducible apply Box.set20 | with_reducible apply Box.set21 | with_reducible apply Box.set40 | with_reducible apply Box.set41 | with_reducible apply Box.set42 | with_reducible apply Box.set43 | with_reducible apply Box.set50 | with_reducible apply Box.set51 | with_reducible apply Box.set52 | with_reducible apply Box.set53 | with_reducible apply Box.set54 | with_reducible apply Box.set80 | with_reducible apply Box.set81 | with_reducible apply Box.set82 | with_reducible apply Box.set83 | with_reducible apply Box.set84 | with_reducible apply Box.set85 | with_reducible apply Box.set86 | with_reducible apply Box.set87 | with_reducible apply Box.drew | (with_reducible apply Box.newAt; (try simp only [World.size_alloc, World.size_setCell, World.size_drew]); done) | with_reducible apply Box.alloc | (with_reducible apply Box.other; case hne => ((try simp only [World.size_alloc, World.size_setCell, World.size_drew]); omega))))
          have hk' : Kept w.heap.size w w6 := Kept.step (by repeat (first | with_reducible exact hk | with_reducible exact Kept.refl _ | with_reducible refine Kept.alloc ?_ _ | with_reducible refine Kept.drew ?_ | with_reducible refine Kept.setCell ?_ (by simp only [World.size_alloc, World.size_setCell, World.size_drew]; omega) _)) hb
          clear hk hb
          clear X1 X1l1 X1l2 X1l3 X1f X10 X11 X12 X13 X14
          clear X2 X2l1 X2l2 X2l3 X2f X20 X21 X22 X23 X24
          clear Bv2_2 Bv2_2l1 Bv2_2l2 Bv2_2l3 Bv2_2f Bv2_20 Bv2_21 Bv2_22 Bv2_23 Bv2_24
          clear Bv2_3 Bv2_3l1 Bv2_3l2 Bv2_3l3 Bv2_3f Bv2_30 Bv2_31 Bv2_32 Bv2_33 Bv2_34
          clear Bv4_6 Bv4_6l1 Bv4_6l2 Bv4_6l3 Bv4_6f Bv4_60 Bv4_61 Bv4_62 Bv4_63 Bv4_64
          clear Bv4_7 Bv4_7l1 Bv4_7l2 Bv4_7l3 Bv4_7f Bv4_70 Bv4_71 Bv4_72 Bv4_73 Bv4_74
          have X1 := X1'
          clear X1'
          have X2 := X2'
          clear X2'
          have Bv2_2 := Bv2_2'
          clear Bv2_2'
          have Bv2_3 := Bv2_3'
          clear Bv2_3'
          have Bv4_6 := Bv4_6'
          clear Bv4_6'
          have Bv4_7 := Bv4_7'
          clear Bv4_7'
          have X3 := X3'
          clear X3'
          have hk := hk'
          clear hk'
          have hz_w6 := hk.size
          have X1l := X1.lt
          have X1f := X1.free
          have X1l1 : w.heap.size < w6.heap.size + 1 := by omega
          have X1l2 : w.heap.size < w6.heap.size + 1 + 1 := by omega
          have X1l3 : w.heap.size < w6.heap.size + 1 + 1 + 1 := by omega
          have X10 := X1.cell 0 _ rfl
          have X11 := X1.cell 1 _ rfl
          have X12 := X1.cell 2 _ rfl
          have X13 := X1.cell 3 _ rfl
          have X14 := X1.cell 4 _ rfl
          have X2l := X2.lt
          have X2f := X2.free
          have X2l1 : w.heap.size + 1 < w6.heap.size + 1 := by omega
          have X2l2 : w.heap.size + 1 < w6.heap.size + 1 + 1 := by omega
          have X2l3 : w.heap.size + 1 < w6.heap.size + 1 + 1 + 1 := by omega
          have X20 := X2.cell 0 _ rfl
          have X21 := X2.cell 1 _ rfl
          have X22 := X2.cell 2 _ rfl
          have X23 := X2.cell 3 _ rfl
          have X24 := X2.cell 4 _ rfl
          have Bv2_2l := Bv2_2.lt
          have Bv2_2f := Bv2_2.free
          have Bv2_2l1 : v2_2 < w6.heap.size + 1 := by omega
          have Bv2_2l2 : v2_2 < w6.heap.size + 1 + 1 := by omega
          have Bv2_2l3 : v2_2 < w6.heap.size + 1 + 1 + 1 := by omega
          have Bv2_20 := Bv2_2.cell 0 _ rfl
          have Bv2_21 := Bv2_2.cell 1 _ rfl
          have Bv2_22 := Bv2_2.cell 2 _ rfl
          have Bv2_23 := Bv2_2.cell 3 _ rfl
          have Bv2_24 := Bv2_2.cell 4 _ rfl
          have Bv2_3l := Bv2_3.lt
          have Bv2_3f := Bv2_3.free
          have Bv2_3l1 : v2_3 < w6.heap.size + 1 := by omega
          have Bv2_3l2 : v2_3 < w6.heap.size + 1 + 1 := by omega
          have Bv2_3l3 : v2_3 < w6.heap.size + 1 + 1 + 1 := by omega
          have Bv2_30 := Bv2_3.cell 0 _ rfl
          have Bv2_31 := Bv2_3.cell 1 _ rfl
          have Bv2_32 := Bv2_3.cell 2 _ rfl
          have Bv2_33 := Bv2_3.cell 3 _ rfl
          have Bv2_34 := Bv2_3.cell 4 _ rfl
          have Bv4_6l := Bv4_6.lt
          have Bv4_6f := Bv4_6.free
          have Bv4_6l1 : v4_6 < w6.heap.size + 1 := by omega
          have Bv4_6l2 : v4_6 < w6.heap.size + 1 + 1 := by omega
          have Bv4_6l3 : v4_6 < w6.heap.size + 1 + 1 + 1 := by omega
          have Bv4_60 := Bv4_6.cell 0 _ rfl
          have Bv4_61 := Bv4_6.cell 1 _ rfl
          have Bv4_62 := Bv4_6.cell 2 _ rfl
          have Bv4_63 := Bv4_6.cell 3 _ rfl
          have Bv4_64 := Bv4_6.cell 4 _ rfl
          have Bv4_7l := Bv4_7.lt
          have Bv4_7f := Bv4_7.free
          have Bv4_7l1 : v4_7 < w6.heap.size + 1 := by omega
          have Bv4_7l2 : v4_7 < w6.heap.size + 1 + 1 := by omega
          have Bv4_7l3 : v4_7 < w6.heap.size + 1 + 1 + 1 := by omega
          have Bv4_70 := Bv4_7.cell 0 _ rfl
          have Bv4_71 := Bv4_7.cell 1 _ rfl
          have Bv4_72 := Bv4_7.cell 2 _ rfl
          have Bv4_73 := Bv4_7.cell 3 _ rfl
          have Bv4_74 := Bv4_7.cell 4 _ rfl
          have X3l := X3.lt
          have X3f := X3.free
          have X3l1 : w5.heap.size < w6.heap.size + 1 := by omega
          have X3l2 : w5.heap.size < w6.heap.size + 1 + 1 := by omega
          have X3l3 : w5.heap.size < w6.heap.size + 1 + 1 + 1 := by omega
          have X30 := X3.cell 0 _ rfl
          have X31 := X3.cell 1 _ rfl
          have X32 := X3.cell 2 _ rfl
          have X33 := X3.cell 3 _ rfl
          have X34 := X3.cell 4 _ rfl
          go_wp2
          refine wp_region_g 50 (fun W' => Kept w.heap.size w W' ∧ w6.heap.size + 1 ≤ W'.heap.size ∧ Box W' (w.heap.size) #[.int .i64 (x), .int .u64 (limb 0 A), .int .u64 (limb 1 A), .int .u64 (limb 2 A), .int .u64 (limb 3 A)] ∧ Box W' (w.heap.size + 1) #[.int .i64 (y), .int .u64 (limb 0 B), .int .u64 (limb 1 B), .int .u64 (limb 2 B), .int .u64 (limb 3 B)] ∧ Box W' (v2_2) #[.int .i64 (x + d), .int .u64 (limb 0 A), .int .u64 (limb 1 A), .int .u64 (limb 2 A), .int .u64 (limb 3 A)] ∧ Box W' (v2_3) #[.int .i64 (y + d), .int .u64 (limb 0 B), .int .u64 (limb 1 B), .int .u64 (limb 2 B), .int .u64 (limb 3 B)] ∧ Box W' (v4_6) #[.int .i64 (l), .int .u64 (limb 0 S), .int .u64 (limb 1 S), .int .u64 (limb 2 S), .int .u64 (limb 3 S)] ∧ Box W' (v4_7) #[.int .i64 (l + d), .int .u64 (limb 0 S), .int .u64 (limb 1 S), .int .u64 (limb 2 S), .int .u64 (limb 3 S)] ∧ Box W' (w5.heap.size) #[.int .i64 (m), .int .u64 (limb 0 T), .int .u64 (limb 1 T), .int .u64 (limb 2 T), .int .u64 (limb 3 T)] ∧ Box W' (w6.heap.size) #[.int .i64 (m + d), .int .u64 (limb 0 T), .int .u64 (limb 1 T), .int .u64 (limb 2 T), .int .u64 (limb 3 T)]) (fun W' => Kept w.heap.size w W' ∧ w6.heap.size + 1 ≤ W'.heap.size ∧ Box W' (w.heap.size) #[.int .i64 (x), .int .u64 (limb 0 A), .int .u64 (limb 1 A), .int .u64 (limb 2 A), .int .u64 (limb 3 A)] ∧ Box W' (w.heap.size + 1) #[.int .i64 (y), .int .u64 (limb 0 B), .int .u64 (limb 1 B), .int .u64 (limb 2 B), .int .u64 (limb 3 B)] ∧ Box W' (v2_2) #[.int .i64 (x + d), .int .u64 (limb 0 A), .int .u64 (limb 1 A), .int .u64 (limb 2 A), .int .u64 (limb 3 A)] ∧ Box W' (v2_3) #[.int .i64 (y + d), .int .u64 (limb 0 B), .int .u64 (limb 1 B), .int .u64 (limb 2 B), .int .u64 (limb 3 B)] ∧ Box W' (v4_6) #[.int .i64 (l), .int .u64 (limb 0 S), .int .u64 (limb 1 S), .int .u64 (limb 2 S), .int .u64 (limb 3 S)] ∧ Box W' (v4_7) #[.int .i64 (l + d), .int .u64 (limb 0 S), .int .u64 (limb 1 S), .int .u64 (limb 2 S), .int .u64 (limb 3 S)] ∧ Box W' (w5.heap.size) #[.int .i64 (m), .int .u64 (limb 0 T), .int .u64 (limb 1 T), .int .u64 (limb 2 T), .int .u64 (limb 3 T)] ∧ Box W' (w6.heap.size) #[.int .i64 (m + d), .int .u64 (limb 0 T), .int .u64 (limb 1 T), .int .u64 (limb 2 T), .int .u64 (limb 3 T)]) 1000 (w6.heap.size + 1) [.known (.pointer (some ⟨v4_7, 0, none⟩)), .known (.int .i64 (l + d)), .known (.pointer (some ⟨v4_6, 0, none⟩)), .known (.int .i64 (l)), .known (.int .i16 (d)), .known (.int .i64 (d)), .known (.int .i64 (l + d)), .known (.bool true), .known (.bool true), .known (.pointer (some ⟨v4_7, 1, none⟩)), .known (wideV S), .known (.pointer (some ⟨v4_6, 1, none⟩)), .known (wideV S), .known (.bool true), .known (.bool true), .known (.bool true), .known (.pointer (some ⟨w6.heap.size, 0, none⟩)), .known (.int .i64 (m + d)), .known (.pointer (some ⟨w5.heap.size, 0, none⟩)), .known (.int .i64 (m)), .known (.int .i16 (d)), .known (.int .i64 (d)), .known (.int .i64 (m + d)), .known (.bool true), .known (.bool true), .known (.bool true), .known (.pointer (some ⟨w6.heap.size, 1, none⟩)), .known (wideV T), .known (.pointer (some ⟨w5.heap.size, 1, none⟩)), .known (wideV T), .known (.bool true), .known (.bool true), .known (.bool true), .known (.bool false), .known (.bool false), .known (.bool true), .known (.bool true), .known (.bool true), .known (termV x A), .known (termV y B), .known (.int .i64 (c)), .known (termV (x + d) A), .known (termV (y + d) B), .known (.int .i64 (c)), .known (.bool true), .known (.bool true), .known (.bool true), .known (.bool true), .known (.bool true), .known (.bool true)] (by kernel_rfl) (by kernel_rfl) (fun W W' h hb => ⟨h.1.step hb, Nat.le_trans (h.2.1) hb.size, Box.call hb (h.2.2.1), Box.call hb (h.2.2.2.1), Box.call hb (h.2.2.2.2.1), Box.call hb (h.2.2.2.2.2.1), Box.call hb (h.2.2.2.2.2.2.1), Box.call hb (h.2.2.2.2.2.2.2.1), Box.call hb (h.2.2.2.2.2.2.2.2.1), Box.call hb (h.2.2.2.2.2.2.2.2.2)⟩) (fun W W' h hb => ⟨h.1.step hb, Nat.le_trans (h.2.1) hb.size, Box.call hb (h.2.2.1), Box.call hb (h.2.2.2.1), Box.call hb (h.2.2.2.2.1), Box.call hb (h.2.2.2.2.2.1), Box.call hb (h.2.2.2.2.2.2.1), Box.call hb (h.2.2.2.2.2.2.2.1), Box.call hb (h.2.2.2.2.2.2.2.2.1), Box.call hb (h.2.2.2.2.2.2.2.2.2)⟩) (no_out (of_decide_eq_true (by kernel_rfl))) (.inl (by kernel_rfl)) (.inl (by kernel_rfl)) (fun _ h => h.2.1) (fun _ h => h.2.1) (⟨(by repeat (first | with_reducible exact hk | with_reducible exact Kept.refl _ | with_reducible refine Kept.alloc ?_ _ | with_reducible refine Kept.drew ?_ | with_reducible refine Kept.setCell ?_ (by simp only [World.size_alloc, World.size_setCell, World.size_drew]; omega) _)), (by (try simp only [World.size_alloc, World.size_setCell, World.size_drew]); omega), (by repeat (first | with_reducible assumption | with_reducible apply Box.set10 | with_reducible apply Box.set20 | with_reducible apply Box.set21 | with_reducible apply Box.set40 | with_reducible apply Box.set41 | with_reducible apply Box.set42 | with_reducible apply Box.set43 | with_reducible apply Box.set50 | with_reducible apply Box.set51 | with_reducible apply Box.set52 | with_reducible apply Box.set53 | with_reducible apply Box.set54 | with_reducible apply Box.set80 | with_reducible apply Box.set81 | with_reducible apply Box.set82 | with_reducible apply Box.set83 | with_reducible apply Box.set84 | with_reducible apply Box.set85 | with_reducible apply Box.set86 | with_reducible apply Box.set87 | with_reducible apply Box.drew | (with_reducible apply Box.newAt; (try simp only [World.size_alloc, World.size_setCell, World.size_drew]); done) | with_reducible apply Box.alloc | (with_reducible apply Box.other; case hne => ((try simp only [World.size_alloc, World.size_setCell, World.size_drew]); omega)))), (by repeat (first | with_reducible assumption | with_reducible apply Box.set10 | with_reducible apply Box.set20 | with_reducible apply Box.set21 | with_reducible apply Box.set40 | with_reducible apply Box.set41 | with_reducible apply Box.set42 | with_reducible apply Box.set43 | with_reducible apply Box.set50 | with_reducible apply Box.set51 | with_reducible apply Box.set52 | with_reducible apply Box.set53 | with_reducible apply Box.set54 | with_reducible apply Box.set80 | with_reducible apply Box.set81 | with_reducible apply Box.set82 | with_reducible apply Box.set83 | with_reducible apply Box.set84 | with_reducible apply Box.set85 | with_reducible apply Box.set86 | with_reducible apply Box.set87 | with_reducible apply Box.drew | (with_reducible apply Box.newAt; (try simp only [World.size_alloc, World.size_setCell, World.size_drew]); done) | with_reducible apply Box.alloc | (with_reducible apply Box.other; case hne => ((try simp only [World.size_alloc, World.size_setCell, World.size_drew]); omega)))), (by repeat (first | with_reducible assumption | with_reducible apply Box.set10 | with_reducible apply Box.set20 | with_reducible apply Box.set21 | with_reducible apply Box.set40 | with_reducible apply Box.set41 | with_reducible apply Box.set42 | with_reducible apply Box.set43 | with_reducible apply Box.set50 | with_reducible apply Box.set51 | with_reducible apply Box.set52 | with_reducible apply Box.set53 | with_reducible apply Box.set54 | with_reducible apply Box.set80 | with_reducible apply Box.set81 | with_reducible apply Box.set82 | with_reducible apply Box.set83 | with_reducible apply Box.set84 | with_reducible apply Box.set85 | with_reducible apply Box.set86 | with_reducible apply Box.set87 | with_reducible apply Box.drew | (with_reducible apply Box.newAt; (try simp only [World.size_alloc, World.size_setCell, World.size_drew]); done) | with_reducible apply Box.alloc | (with_reducible apply Box.other; case hne => ((try simp only [World.size_alloc, World.size_setCell, World.size_drew]); omega)))), (by repeat (first | with_reducible assumption | with_reducible apply Box.set10 | with_reducible apply Box.set20 | with_reducible apply Box.set21 | with_reducible apply Box.set40 | with_reducible apply Box.set41 | with_reducible apply Box.set42 | with_reducible apply Box.set43 | with_reducible apply Box.set50 | with_reducible apply Box.set51 | with_reducible apply Box.set52 | with_reducible apply Box.set53 | with_reducible apply Box.set54 | with_reducible apply Box.set80 | with_reducible apply Box.set81 | with_reducible apply Box.set82 | with_reducible apply Box.set83 | with_reducible apply Box.set84 | with_reducible apply Box.set85 | with_reducible apply Box.set86 | with_reducible apply Box.set87 | with_reducible apply Box.drew | (with_reducible apply Box.newAt; (try simp only [World.size_alloc, World.size_setCell, World.size_drew]); done) | with_reducible apply Box.alloc | (with_reducible apply Box.other; case hne => ((try simp only [World.size_alloc, World.size_setCell, World.size_drew]); omega)))), (by repeat (first | with_reducible assumption | with_reducible apply Box.set10 | with_reducible apply Box.set20 | with_reducible apply Box.set21 | with_reducible apply Box.set40 | with_reducible apply Box.set41 | with_reducible apply Box.set42 | with_reducible apply Box.set43 | with_reducible apply Box.set50 | with_reducible apply Box.set51 | with_reducible apply Box.set52 | with_reducible apply Box.set53 | with_reducible apply Box.set54 | with_reducible apply Box.set80 | with_reducible apply Box.set81 | with_reducible apply Box.set82 | with_reducible apply Box.set83 | with_reducible apply Box.set84 | with_reducible apply Box.set85 | with_reducible apply Box.set86 | with_reducible apply Box.set87 | with_reducible apply Box.drew | (with_reducible apply Box.newAt; (try simp only [World.size_alloc, World.size_setCell, World.size_drew]); done) | with_reducible apply Box.alloc | (with_reducible apply Box.other; case hne => ((try simp only [World.size_alloc, World.size_setCell, World.size_drew]); omega)))), (by repeat (first | with_reducible assumption | with_reducible apply Box.set10 | with_reducible apply Box.set20 | with_reducible apply Box.set21 | with_reducible apply Box.set40 | with_reducible apply Box.set41 | with_reducible apply Box.set42 | with_reducible apply Box.set43 | with_reducible apply Box.set50 | with_reducible apply Box.set51 | with_reducible apply Box.set52 | with_reducible apply Box.set53 | with_reducible apply Box.set54 | with_reducible apply Box.set80 | with_reducible apply Box.set81 | with_reducible apply Box.set82 | with_reducible apply Box.set83 | with_reducible apply Box.set84 | with_reducible apply Box.set85 | with_reducible apply Box.set86 | with_reducible apply Box.set87 | with_reducible apply Box.drew | (with_reducible apply Box.newAt; (try simp only [World.size_alloc, World.size_setCell, World.size_drew]); done) | with_reducible apply Box.alloc | (with_reducible apply Box.other; case hne => ((try simp only [World.size_alloc, World.size_setCell, World.size_drew]); omega)))), (by repeat (first | with_reducible assumption | with_reducible apply Box.set10 | with_reducible apply Box.set20 | with_reducible apply Box.set21 | with_reducible apply Box.set40 | with_reducible apply Box.set41 | with_reducible apply Box.set42 | with_reducible apply Box.set43 | with_reducible apply Box.set50 | with_reducible apply Box.set51 | with_reducible apply Box.set52 | with_reducible apply Box.set53 | with_reducible apply Box.set54 | with_reducible apply Box.set80 | with_reducible apply Box.set81 | with_reducible apply Box.set82 | with_reducible apply Box.set83 | with_reducible apply Box.set84 | with_reducible apply Box.set85 | with_reducible apply Box.set86 | with_reducible apply Box.set87 | with_reducible apply Box.drew | (with_reducible apply Box.newAt; (try simp only [World.size_alloc, World.size_setCell, World.size_drew]); done) | with_reducible apply Box.alloc | (with_reducible apply Box.other; case hne => ((try simp only [World.size_alloc, World.size_setCell, World.size_drew]); omega)))), (by repeat (first | with_reducible assumption | with_reducible apply Box.set10 | with_reducible apply Box.set20 | with_reducible apply Box.set21 | with_reducible apply Box.set40 | with_reducible apply Box.set41 | with_reducible apply Box.set42 | with_reducible apply Box.set43 | with_reducible apply Box.set50 | with_reducible apply Box.set51 | with_reducible apply Box.set52 | with_reducible apply Box.set53 | with_reducible apply Box.set54 | with_reducible apply Box.set80 | with_reducible apply Box.set81 | with_reducible apply Box.set82 | with_reducible apply Box.set83 | with_reducible apply Box.set84 | with_reducible apply Box.set85 | with_reducible apply Box.set86 | with_reducible apply Box.set87 | with_reducible apply Box.drew | (with_reducible apply Box.newAt; (try simp only [World.size_alloc, World.size_setCell, World.size_drew]); done) | with_reducible apply Box.alloc | (with_reducible apply Box.other; case hne => ((try simp only [World.size_alloc, World.size_setCell, World.size_drew]); omega))))⟩) ?_
          clear hk
          clear X1 X1l1 X1l2 X1l3 X1f X10 X11 X12 X13 X14
          clear X2 X2l1 X2l2 X2l3 X2f X20 X21 X22 X23 X24
          clear Bv2_2 Bv2_2l1 Bv2_2l2 Bv2_2l3 Bv2_2f Bv2_20 Bv2_21 Bv2_22 Bv2_23 Bv2_24
          clear Bv2_3 Bv2_3l1 Bv2_3l2 Bv2_3l3 Bv2_3f Bv2_30 Bv2_31 Bv2_32 Bv2_33 Bv2_34
          clear Bv4_6 Bv4_6l1 Bv4_6l2 Bv4_6l3 Bv4_6f Bv4_60 Bv4_61 Bv4_62 Bv4_63 Bv4_64
          clear Bv4_7 Bv4_7l1 Bv4_7l2 Bv4_7l3 Bv4_7f Bv4_70 Bv4_71 Bv4_72 Bv4_73 Bv4_74
          clear X3 X3l1 X3l2 X3l3 X3f X30 X31 X32 X33 X34
          intro ρ
          simp only [List.take_succ_cons, List.take_zero, List.drop_succ_cons, List.drop_zero]
          refine ⟨?_, ?_⟩
          · as_aux_lemma =>
            intro y_ hS_ hO_ hD
            clear hS_ hO_ hD
            refine s_gen (V := .pointer (some ⟨v4_7, 0, none⟩)) [.pointer (some ⟨v4_7, 0, none⟩)] (by kernel_rfl) (by kernel_rfl) (by kernel_rfl) ?_
            intro r_ hr_
            have o0_ : r_ (.tmp 10) = .pointer (some ⟨v4_7, 0, none⟩) := op_at hr_ 0 (by kernel_rfl) (by kernel_rfl)
            clear hr_
            go_simp; first | done | with_reducible rfl | omega
          simp only [Act.put, planVG, List.setIfInBounds_toArray, List.set_cons_zero, List.set_cons_succ, List.getElem?_cons_zero, List.getElem?_cons_succ]
          refine ⟨?_, ?_⟩
          · as_aux_lemma =>
            intro y_ hS_ hO_ hD
            have Q := ((hS_ (by rfl)).2.2.2.2.2.2.2.1).cell
            have q0 := Q 0 _ rfl
            have q1 := Q 1 _ rfl
            have q2 := Q 2 _ rfl
            have q3 := Q 3 _ rfl
            have q4 := Q 4 _ rfl
            clear Q hS_ hO_ hD
            refine s_gen (V := .int .i64 (l + d)) [.pointer (some ⟨v4_7, 0, none⟩)] (by kernel_rfl) (by kernel_rfl) (by kernel_rfl) ?_
            intro r_ hr_
            have o0_ : r_ (.tmp 57) = .pointer (some ⟨v4_7, 0, none⟩) := op_at hr_ 0 (by kernel_rfl) (by kernel_rfl)
            clear hr_
            go_simp; first | done | with_reducible rfl
          simp only [Act.put, planVG, List.setIfInBounds_toArray, List.set_cons_zero, List.set_cons_succ, List.getElem?_cons_zero, List.getElem?_cons_succ]
          refine ⟨?_, ?_⟩
          · as_aux_lemma =>
            intro y_ hS_ hO_ hD
            clear hS_ hO_ hD
            refine s_gen (V := .pointer (some ⟨v4_6, 0, none⟩)) [.pointer (some ⟨v4_6, 0, none⟩)] (by kernel_rfl) (by kernel_rfl) (by kernel_rfl) ?_
            intro r_ hr_
            have o0_ : r_ (.tmp 9) = .pointer (some ⟨v4_6, 0, none⟩) := op_at hr_ 0 (by kernel_rfl) (by kernel_rfl)
            clear hr_
            go_simp; first | done | with_reducible rfl | omega
          simp only [Act.put, planVG, List.setIfInBounds_toArray, List.set_cons_zero, List.set_cons_succ, List.getElem?_cons_zero, List.getElem?_cons_succ]
          refine ⟨?_, ?_⟩
          · as_aux_lemma =>
            intro y_ hS_ hO_ hD
            have Q := ((hS_ (by rfl)).2.2.2.2.2.2.1).cell
            have q0 := Q 0 _ rfl
            have q1 := Q 1 _ rfl
            have q2 := Q 2 _ rfl
            have q3 := Q 3 _ rfl
            have q4 := Q 4 _ rfl
            clear Q hS_ hO_ hD
            refine s_gen (V := .int .i64 (l)) [.pointer (some ⟨v4_6, 0, none⟩)] (by kernel_rfl) (by kernel_rfl) (by kernel_rfl) ?_
            intro r_ hr_
            have o0_ : r_ (.tmp 59) = .pointer (some ⟨v4_6, 0, none⟩) := op_at hr_ 0 (by kernel_rfl) (by kernel_rfl)
            clear hr_
            go_simp; first | done | with_reducible rfl
          simp only [Act.put, planVG, List.setIfInBounds_toArray, List.set_cons_zero, List.set_cons_succ, List.getElem?_cons_zero, List.getElem?_cons_succ]
          refine ⟨?_, ?_⟩
          · as_aux_lemma =>
            intro y_ hS_ hO_ hD
            clear hS_ hO_ hD
            refine s_gen (V := .int .i16 (d)) [.int .i16 (d)] (by kernel_rfl) (by kernel_rfl) (by kernel_rfl) ?_
            intro r_ hr_
            have o0_ : r_ (.tmp 2) = .int .i16 (d) := op_at hr_ 0 (by kernel_rfl) (by kernel_rfl)
            clear hr_
            go_simp; first | done | with_reducible rfl | omega
          simp only [Act.put, planVG, List.setIfInBounds_toArray, List.set_cons_zero, List.set_cons_succ, List.getElem?_cons_zero, List.getElem?_cons_succ]
          refine ⟨?_, ?_⟩
          · as_aux_lemma =>
            intro y_ hS_ hO_ hD
            clear hS_ hO_ hD
            refine s_gen (V := .int .i64 (d)) [.int .i16 (d)] (by kernel_rfl) (by kernel_rfl) (by kernel_rfl) ?_
            intro r_ hr_
            have o0_ : r_ (.tmp 61) = .int .i16 (d) := op_at hr_ 0 (by kernel_rfl) (by kernel_rfl)
            clear hr_
            go_simp; first | done | with_reducible rfl | omega
          simp only [Act.put, planVG, List.setIfInBounds_toArray, List.set_cons_zero, List.set_cons_succ, List.getElem?_cons_zero, List.getElem?_cons_succ]
          refine ⟨?_, ?_⟩
          · as_aux_lemma =>
            intro y_ hS_ hO_ hD
            clear hS_ hO_ hD
            refine s_gen (V := .int .i64 (l + d)) [.int .i64 (l), .int .i64 (d)] (by kernel_rfl) (by kernel_rfl) (by kernel_rfl) ?_
            intro r_ hr_
            have o0_ : r_ (.tmp 60) = .int .i64 (l) := op_at hr_ 0 (by kernel_rfl) (by kernel_rfl)
            have o1_ : r_ (.tmp 62) = .int .i64 (d) := op_at hr_ 1 (by kernel_rfl) (by kernel_rfl)
            clear hr_
            go_simp; first | done | with_reducible rfl | omega
          simp only [Act.put, planVG, List.setIfInBounds_toArray, List.set_cons_zero, List.set_cons_succ, List.getElem?_cons_zero, List.getElem?_cons_succ]
          refine ⟨?_, ?_⟩
          · as_aux_lemma =>
            intro y_ hS_ hO_ hD
            clear hS_ hO_ hD
            refine s_gen (V := .bool true) [.int .i64 (l + d), .int .i64 (l + d)] (by kernel_rfl) (by kernel_rfl) (by kernel_rfl) ?_
            intro r_ hr_
            have o0_ : r_ (.tmp 58) = .int .i64 (l + d) := op_at hr_ 0 (by kernel_rfl) (by kernel_rfl)
            have o1_ : r_ (.tmp 63) = .int .i64 (l + d) := op_at hr_ 1 (by kernel_rfl) (by kernel_rfl)
            clear hr_
            go_simp; first | done | with_reducible rfl | omega
          simp only [Act.put, planVG, List.setIfInBounds_toArray, List.set_cons_zero, List.set_cons_succ, List.getElem?_cons_zero, List.getElem?_cons_succ]
          refine ⟨?_, ?_⟩
          · as_aux_lemma =>
            intro y_ hS_ hO_ hD
            clear hS_ hO_ hD
            refine s_gen (V := .bool true) [.bool true] (by kernel_rfl) (by kernel_rfl) (by kernel_rfl) ?_
            intro r_ hr_
            have o0_ : r_ (.tmp 64) = .bool true := op_at hr_ 0 (by kernel_rfl) (by kernel_rfl)
            clear hr_
            go_simp; first | done | with_reducible rfl | omega
          simp only [Act.put, planVG, List.setIfInBounds_toArray, List.set_cons_zero, List.set_cons_succ, List.getElem?_cons_zero, List.getElem?_cons_succ]
          refine ⟨?_, ?_⟩
          · as_aux_lemma =>
            intro y_ hS_ hO_ hD
            clear hS_ hO_ hD
            refine s_gen (V := .pointer (some ⟨v4_7, 1, none⟩)) [.pointer (some ⟨v4_7, 0, none⟩)] (by kernel_rfl) (by kernel_rfl) (by kernel_rfl) ?_
            intro r_ hr_
            have o0_ : r_ (.tmp 10) = .pointer (some ⟨v4_7, 0, none⟩) := op_at hr_ 0 (by kernel_rfl) (by kernel_rfl)
            clear hr_
            go_simp; first | done | with_reducible rfl | omega
          simp only [Act.put, planVG, List.setIfInBounds_toArray, List.set_cons_zero, List.set_cons_succ, List.getElem?_cons_zero, List.getElem?_cons_succ]
          refine ⟨?_, ?_⟩
          · as_aux_lemma =>
            intro y_ hS_ hO_ hD
            have Q := ((hS_ (by rfl)).2.2.2.2.2.2.2.1).cell
            have q0 := Q 0 _ rfl
            have q1 := Q 1 _ rfl
            have q2 := Q 2 _ rfl
            have q3 := Q 3 _ rfl
            have q4 := Q 4 _ rfl
            clear Q hS_ hO_ hD
            refine s_gen (V := wideV S) [.pointer (some ⟨v4_7, 1, none⟩)] (by kernel_rfl) (by kernel_rfl) (by kernel_rfl) ?_
            intro r_ hr_
            have o0_ : r_ (.tmp 66) = .pointer (some ⟨v4_7, 1, none⟩) := op_at hr_ 0 (by kernel_rfl) (by kernel_rfl)
            clear hr_
            go_simp; first | done | with_reducible rfl
          simp only [Act.put, planVG, List.setIfInBounds_toArray, List.set_cons_zero, List.set_cons_succ, List.getElem?_cons_zero, List.getElem?_cons_succ]
          refine ⟨?_, ?_⟩
          · as_aux_lemma =>
            intro y_ hS_ hO_ hD
            clear hS_ hO_ hD
            refine s_gen (V := .pointer (some ⟨v4_6, 1, none⟩)) [.pointer (some ⟨v4_6, 0, none⟩)] (by kernel_rfl) (by kernel_rfl) (by kernel_rfl) ?_
            intro r_ hr_
            have o0_ : r_ (.tmp 9) = .pointer (some ⟨v4_6, 0, none⟩) := op_at hr_ 0 (by kernel_rfl) (by kernel_rfl)
            clear hr_
            go_simp; first | done | with_reducible rfl | omega
          simp only [Act.put, planVG, List.setIfInBounds_toArray, List.set_cons_zero, List.set_cons_succ, List.getElem?_cons_zero, List.getElem?_cons_succ]
          refine ⟨?_, ?_⟩
          · as_aux_lemma =>
            intro y_ hS_ hO_ hD
            have Q := ((hS_ (by rfl)).2.2.2.2.2.2.1).cell
            have q0 := Q 0 _ rfl
            have q1 := Q 1 _ rfl
            have q2 := Q 2 _ rfl
            have q3 := Q 3 _ rfl
            have q4 := Q 4 _ rfl
            clear Q hS_ hO_ hD
            refine s_gen (V := wideV S) [.pointer (some ⟨v4_6, 1, none⟩)] (by kernel_rfl) (by kernel_rfl) (by kernel_rfl) ?_
            intro r_ hr_
            have o0_ : r_ (.tmp 68) = .pointer (some ⟨v4_6, 1, none⟩) := op_at hr_ 0 (by kernel_rfl) (by kernel_rfl)
            clear hr_
            go_simp; first | done | with_reducible rfl
          simp only [Act.put, planVG, List.setIfInBounds_toArray, List.set_cons_zero, List.set_cons_succ, List.getElem?_cons_zero, List.getElem?_cons_succ]
          refine ⟨?_, ?_⟩
          · as_aux_lemma =>
            intro y_ hS_ hO_ hD
            clear hS_ hO_ hD
            refine s_gen (V := .bool true) [wideV S, wideV S] (by kernel_rfl) (by kernel_rfl) (by kernel_rfl) ?_
            intro r_ hr_
            have o0_ : r_ (.tmp 67) = wideV S := op_at hr_ 0 (by kernel_rfl) (by kernel_rfl)
            have o1_ : r_ (.tmp 69) = wideV S := op_at hr_ 1 (by kernel_rfl) (by kernel_rfl)
            clear hr_
            go_simp; first | done | with_reducible rfl | omega
          simp only [Act.put, planVG, List.setIfInBounds_toArray, List.set_cons_zero, List.set_cons_succ, List.getElem?_cons_zero, List.getElem?_cons_succ]
          refine ⟨?_, ?_⟩
          · as_aux_lemma =>
            intro y_ hS_ hO_ hD
            clear hS_ hO_ hD
            refine s_gen (V := .bool true) [.bool true, .bool true, .bool false] (by kernel_rfl) (by kernel_rfl) (by kernel_rfl) ?_
            intro r_ hr_
            have o0_ : r_ (.tmp 65) = .bool true := op_at hr_ 0 (by kernel_rfl) (by kernel_rfl)
            have o1_ : r_ (.tmp 70) = .bool true := op_at hr_ 1 (by kernel_rfl) (by kernel_rfl)
            have o2_ : r_ (.const (.bool false)) = .bool false := op_at hr_ 2 (by kernel_rfl) (by kernel_rfl)
            clear hr_
            go_simp; first | done | with_reducible rfl | omega
          simp only [Act.put, planVG, List.setIfInBounds_toArray, List.set_cons_zero, List.set_cons_succ, List.getElem?_cons_zero, List.getElem?_cons_succ]
          refine ⟨?_, ?_⟩
          · as_aux_lemma =>
            intro y_ hS_ hO_ hD
            clear hS_ hO_ hD
            refine s_gen (V := .bool true) [.bool true] (by kernel_rfl) (by kernel_rfl) (by kernel_rfl) ?_
            intro r_ hr_
            have o0_ : r_ (.tmp 71) = .bool true := op_at hr_ 0 (by kernel_rfl) (by kernel_rfl)
            clear hr_
            go_simp; first | done | with_reducible rfl | omega
          simp only [Act.put, planVG, List.setIfInBounds_toArray, List.set_cons_zero, List.set_cons_succ, List.getElem?_cons_zero, List.getElem?_cons_succ]
          refine ⟨?_, ?_⟩
          · as_aux_lemma =>
            intro y_ hS_ hO_ hD
            clear hS_ hO_ hD
            refine s_gen (V := .pointer (some ⟨w6.heap.size, 0, none⟩)) [.pointer (some ⟨w6.heap.size, 0, none⟩)] (by kernel_rfl) (by kernel_rfl) (by kernel_rfl) ?_
            intro r_ hr_
            have o0_ : r_ (.tmp 13) = .pointer (some ⟨w6.heap.size, 0, none⟩) := op_at hr_ 0 (by kernel_rfl) (by kernel_rfl)
            clear hr_
            go_simp; first | done | with_reducible rfl | omega
          simp only [Act.put, planVG, List.setIfInBounds_toArray, List.set_cons_zero, List.set_cons_succ, List.getElem?_cons_zero, List.getElem?_cons_succ]
          refine ⟨?_, ?_⟩
          · as_aux_lemma =>
            intro y_ hS_ hO_ hD
            have Q := ((hS_ (by rfl)).2.2.2.2.2.2.2.2.2).cell
            have q0 := Q 0 _ rfl
            have q1 := Q 1 _ rfl
            have q2 := Q 2 _ rfl
            have q3 := Q 3 _ rfl
            have q4 := Q 4 _ rfl
            clear Q hS_ hO_ hD
            refine s_gen (V := .int .i64 (m + d)) [.pointer (some ⟨w6.heap.size, 0, none⟩)] (by kernel_rfl) (by kernel_rfl) (by kernel_rfl) ?_
            intro r_ hr_
            have o0_ : r_ (.tmp 73) = .pointer (some ⟨w6.heap.size, 0, none⟩) := op_at hr_ 0 (by kernel_rfl) (by kernel_rfl)
            clear hr_
            go_simp; first | done | with_reducible rfl
          simp only [Act.put, planVG, List.setIfInBounds_toArray, List.set_cons_zero, List.set_cons_succ, List.getElem?_cons_zero, List.getElem?_cons_succ]
          refine ⟨?_, ?_⟩
          · as_aux_lemma =>
            intro y_ hS_ hO_ hD
            clear hS_ hO_ hD
            refine s_gen (V := .pointer (some ⟨w5.heap.size, 0, none⟩)) [.pointer (some ⟨w5.heap.size, 0, none⟩)] (by kernel_rfl) (by kernel_rfl) (by kernel_rfl) ?_
            intro r_ hr_
            have o0_ : r_ (.tmp 11) = .pointer (some ⟨w5.heap.size, 0, none⟩) := op_at hr_ 0 (by kernel_rfl) (by kernel_rfl)
            clear hr_
            go_simp; first | done | with_reducible rfl | omega
          simp only [Act.put, planVG, List.setIfInBounds_toArray, List.set_cons_zero, List.set_cons_succ, List.getElem?_cons_zero, List.getElem?_cons_succ]
          refine ⟨?_, ?_⟩
          · as_aux_lemma =>
            intro y_ hS_ hO_ hD
            have Q := ((hS_ (by rfl)).2.2.2.2.2.2.2.2.1).cell
            have q0 := Q 0 _ rfl
            have q1 := Q 1 _ rfl
            have q2 := Q 2 _ rfl
            have q3 := Q 3 _ rfl
            have q4 := Q 4 _ rfl
            clear Q hS_ hO_ hD
            refine s_gen (V := .int .i64 (m)) [.pointer (some ⟨w5.heap.size, 0, none⟩)] (by kernel_rfl) (by kernel_rfl) (by kernel_rfl) ?_
            intro r_ hr_
            have o0_ : r_ (.tmp 75) = .pointer (some ⟨w5.heap.size, 0, none⟩) := op_at hr_ 0 (by kernel_rfl) (by kernel_rfl)
            clear hr_
            go_simp; first | done | with_reducible rfl
          simp only [Act.put, planVG, List.setIfInBounds_toArray, List.set_cons_zero, List.set_cons_succ, List.getElem?_cons_zero, List.getElem?_cons_succ]
          refine ⟨?_, ?_⟩
          · as_aux_lemma =>
            intro y_ hS_ hO_ hD
            clear hS_ hO_ hD
            refine s_gen (V := .int .i16 (d)) [.int .i16 (d)] (by kernel_rfl) (by kernel_rfl) (by kernel_rfl) ?_
            intro r_ hr_
            have o0_ : r_ (.tmp 2) = .int .i16 (d) := op_at hr_ 0 (by kernel_rfl) (by kernel_rfl)
            clear hr_
            go_simp; first | done | with_reducible rfl | omega
          simp only [Act.put, planVG, List.setIfInBounds_toArray, List.set_cons_zero, List.set_cons_succ, List.getElem?_cons_zero, List.getElem?_cons_succ]
          refine ⟨?_, ?_⟩
          · as_aux_lemma =>
            intro y_ hS_ hO_ hD
            clear hS_ hO_ hD
            refine s_gen (V := .int .i64 (d)) [.int .i16 (d)] (by kernel_rfl) (by kernel_rfl) (by kernel_rfl) ?_
            intro r_ hr_
            have o0_ : r_ (.tmp 77) = .int .i16 (d) := op_at hr_ 0 (by kernel_rfl) (by kernel_rfl)
            clear hr_
            go_simp; first | done | with_reducible rfl | omega
          simp only [Act.put, planVG, List.setIfInBounds_toArray, List.set_cons_zero, List.set_cons_succ, List.getElem?_cons_zero, List.getElem?_cons_succ]
          refine ⟨?_, ?_⟩
          · as_aux_lemma =>
            intro y_ hS_ hO_ hD
            clear hS_ hO_ hD
            refine s_gen (V := .int .i64 (m + d)) [.int .i64 (m), .int .i64 (d)] (by kernel_rfl) (by kernel_rfl) (by kernel_rfl) ?_
            intro r_ hr_
            have o0_ : r_ (.tmp 76) = .int .i64 (m) := op_at hr_ 0 (by kernel_rfl) (by kernel_rfl)
            have o1_ : r_ (.tmp 78) = .int .i64 (d) := op_at hr_ 1 (by kernel_rfl) (by kernel_rfl)
            clear hr_
            go_simp; first | done | with_reducible rfl | omega
          simp only [Act.put, planVG, List.setIfInBounds_toArray, List.set_cons_zero, List.set_cons_succ, List.getElem?_cons_zero, List.getElem?_cons_succ]
          refine ⟨?_, ?_⟩
          · as_aux_lemma =>
            intro y_ hS_ hO_ hD
            clear hS_ hO_ hD
            refine s_gen (V := .bool true) [.int .i64 (m + d), .int .i64 (m + d)] (by kernel_rfl) (by kernel_rfl) (by kernel_rfl) ?_
            intro r_ hr_
            have o0_ : r_ (.tmp 74) = .int .i64 (m + d) := op_at hr_ 0 (by kernel_rfl) (by kernel_rfl)
            have o1_ : r_ (.tmp 79) = .int .i64 (m + d) := op_at hr_ 1 (by kernel_rfl) (by kernel_rfl)
            clear hr_
            go_simp; first | done | with_reducible rfl | omega
          simp only [Act.put, planVG, List.setIfInBounds_toArray, List.set_cons_zero, List.set_cons_succ, List.getElem?_cons_zero, List.getElem?_cons_succ]
          refine ⟨?_, ?_⟩
          · as_aux_lemma =>
            intro y_ hS_ hO_ hD
            clear hS_ hO_ hD
            refine s_gen (V := .bool true) [.bool true, .bool true, .bool false] (by kernel_rfl) (by kernel_rfl) (by kernel_rfl) ?_
            intro r_ hr_
            have o0_ : r_ (.tmp 72) = .bool true := op_at hr_ 0 (by kernel_rfl) (by kernel_rfl)
            have o1_ : r_ (.tmp 80) = .bool true := op_at hr_ 1 (by kernel_rfl) (by kernel_rfl)
            have o2_ : r_ (.const (.bool false)) = .bool false := op_at hr_ 2 (by kernel_rfl) (by kernel_rfl)
            clear hr_
            go_simp; first | done | with_reducible rfl | omega
          simp only [Act.put, planVG, List.setIfInBounds_toArray, List.set_cons_zero, List.set_cons_succ, List.getElem?_cons_zero, List.getElem?_cons_succ]
          refine ⟨?_, ?_⟩
          · as_aux_lemma =>
            intro y_ hS_ hO_ hD
            clear hS_ hO_ hD
            refine s_gen (V := .bool true) [.bool true] (by kernel_rfl) (by kernel_rfl) (by kernel_rfl) ?_
            intro r_ hr_
            have o0_ : r_ (.tmp 81) = .bool true := op_at hr_ 0 (by kernel_rfl) (by kernel_rfl)
            clear hr_
            go_simp; first | done | with_reducible rfl | omega
          simp only [Act.put, planVG, List.setIfInBounds_toArray, List.set_cons_zero, List.set_cons_succ, List.getElem?_cons_zero, List.getElem?_cons_succ]
          refine ⟨?_, ?_⟩
          · as_aux_lemma =>
            intro y_ hS_ hO_ hD
            clear hS_ hO_ hD
            refine s_gen (V := .pointer (some ⟨w6.heap.size, 1, none⟩)) [.pointer (some ⟨w6.heap.size, 0, none⟩)] (by kernel_rfl) (by kernel_rfl) (by kernel_rfl) ?_
            intro r_ hr_
            have o0_ : r_ (.tmp 13) = .pointer (some ⟨w6.heap.size, 0, none⟩) := op_at hr_ 0 (by kernel_rfl) (by kernel_rfl)
            clear hr_
            go_simp; first | done | with_reducible rfl | omega
          simp only [Act.put, planVG, List.setIfInBounds_toArray, List.set_cons_zero, List.set_cons_succ, List.getElem?_cons_zero, List.getElem?_cons_succ]
          refine ⟨?_, ?_⟩
          · as_aux_lemma =>
            intro y_ hS_ hO_ hD
            have Q := ((hS_ (by rfl)).2.2.2.2.2.2.2.2.2).cell
            have q0 := Q 0 _ rfl
            have q1 := Q 1 _ rfl
            have q2 := Q 2 _ rfl
            have q3 := Q 3 _ rfl
            have q4 := Q 4 _ rfl
            clear Q hS_ hO_ hD
            refine s_gen (V := wideV T) [.pointer (some ⟨w6.heap.size, 1, none⟩)] (by kernel_rfl) (by kernel_rfl) (by kernel_rfl) ?_
            intro r_ hr_
            have o0_ : r_ (.tmp 83) = .pointer (some ⟨w6.heap.size, 1, none⟩) := op_at hr_ 0 (by kernel_rfl) (by kernel_rfl)
            clear hr_
            go_simp; first | done | with_reducible rfl
          simp only [Act.put, planVG, List.setIfInBounds_toArray, List.set_cons_zero, List.set_cons_succ, List.getElem?_cons_zero, List.getElem?_cons_succ]
          refine ⟨?_, ?_⟩
          · as_aux_lemma =>
            intro y_ hS_ hO_ hD
            clear hS_ hO_ hD
            refine s_gen (V := .pointer (some ⟨w5.heap.size, 1, none⟩)) [.pointer (some ⟨w5.heap.size, 0, none⟩)] (by kernel_rfl) (by kernel_rfl) (by kernel_rfl) ?_
            intro r_ hr_
            have o0_ : r_ (.tmp 11) = .pointer (some ⟨w5.heap.size, 0, none⟩) := op_at hr_ 0 (by kernel_rfl) (by kernel_rfl)
            clear hr_
            go_simp; first | done | with_reducible rfl | omega
          simp only [Act.put, planVG, List.setIfInBounds_toArray, List.set_cons_zero, List.set_cons_succ, List.getElem?_cons_zero, List.getElem?_cons_succ]
          refine ⟨?_, ?_⟩
          · as_aux_lemma =>
            intro y_ hS_ hO_ hD
            have Q := ((hS_ (by rfl)).2.2.2.2.2.2.2.2.1).cell
            have q0 := Q 0 _ rfl
            have q1 := Q 1 _ rfl
            have q2 := Q 2 _ rfl
            have q3 := Q 3 _ rfl
            have q4 := Q 4 _ rfl
            clear Q hS_ hO_ hD
            refine s_gen (V := wideV T) [.pointer (some ⟨w5.heap.size, 1, none⟩)] (by kernel_rfl) (by kernel_rfl) (by kernel_rfl) ?_
            intro r_ hr_
            have o0_ : r_ (.tmp 85) = .pointer (some ⟨w5.heap.size, 1, none⟩) := op_at hr_ 0 (by kernel_rfl) (by kernel_rfl)
            clear hr_
            go_simp; first | done | with_reducible rfl
          simp only [Act.put, planVG, List.setIfInBounds_toArray, List.set_cons_zero, List.set_cons_succ, List.getElem?_cons_zero, List.getElem?_cons_succ]
          refine ⟨?_, ?_⟩
          · as_aux_lemma =>
            intro y_ hS_ hO_ hD
            clear hS_ hO_ hD
            refine s_gen (V := .bool true) [wideV T, wideV T] (by kernel_rfl) (by kernel_rfl) (by kernel_rfl) ?_
            intro r_ hr_
            have o0_ : r_ (.tmp 84) = wideV T := op_at hr_ 0 (by kernel_rfl) (by kernel_rfl)
            have o1_ : r_ (.tmp 86) = wideV T := op_at hr_ 1 (by kernel_rfl) (by kernel_rfl)
            clear hr_
            go_simp; first | done | with_reducible rfl | omega
          simp only [Act.put, planVG, List.setIfInBounds_toArray, List.set_cons_zero, List.set_cons_succ, List.getElem?_cons_zero, List.getElem?_cons_succ]
          refine ⟨?_, ?_⟩
          · as_aux_lemma =>
            intro y_ hS_ hO_ hD
            clear hS_ hO_ hD
            refine s_gen (V := .bool true) [.bool true, .bool true, .bool false] (by kernel_rfl) (by kernel_rfl) (by kernel_rfl) ?_
            intro r_ hr_
            have o0_ : r_ (.tmp 82) = .bool true := op_at hr_ 0 (by kernel_rfl) (by kernel_rfl)
            have o1_ : r_ (.tmp 87) = .bool true := op_at hr_ 1 (by kernel_rfl) (by kernel_rfl)
            have o2_ : r_ (.const (.bool false)) = .bool false := op_at hr_ 2 (by kernel_rfl) (by kernel_rfl)
            clear hr_
            go_simp; first | done | with_reducible rfl | omega
          simp only [Act.put, planVG, List.setIfInBounds_toArray, List.set_cons_zero, List.set_cons_succ, List.getElem?_cons_zero, List.getElem?_cons_succ]
          refine ⟨?_, ?_⟩
          · as_aux_lemma =>
            intro y_ hS_ hO_ hD
            clear hS_ hO_ hD
            refine s_gen (V := .bool true) [.bool true] (by kernel_rfl) (by kernel_rfl) (by kernel_rfl) ?_
            intro r_ hr_
            have o0_ : r_ (.tmp 88) = .bool true := op_at hr_ 0 (by kernel_rfl) (by kernel_rfl)
            clear hr_
            go_simp; first | done | with_reducible rfl | omega
          simp only [Act.put, planVG, List.setIfInBounds_toArray, List.set_cons_zero, List.set_cons_succ, List.getElem?_cons_zero, List.getElem?_cons_succ]
          refine ⟨?_, ?_⟩
          · as_aux_lemma =>
            intro y_ hS_ hO_ hD
            clear hS_ hO_ hD
            refine s_gen (V := .bool false) [.bool false] (by kernel_rfl) (by kernel_rfl) (by kernel_rfl) ?_
            intro r_ hr_
            have o0_ : r_ (.tmp 12) = .bool false := op_at hr_ 0 (by kernel_rfl) (by kernel_rfl)
            clear hr_
            go_simp; first | done | with_reducible rfl | omega
          simp only [Act.put, planVG, List.setIfInBounds_toArray, List.set_cons_zero, List.set_cons_succ, List.getElem?_cons_zero, List.getElem?_cons_succ]
          refine ⟨?_, ?_⟩
          · as_aux_lemma =>
            intro y_ hS_ hO_ hD
            clear hS_ hO_ hD
            refine s_gen (V := .bool false) [.bool false] (by kernel_rfl) (by kernel_rfl) (by kernel_rfl) ?_
            intro r_ hr_
            have o0_ : r_ (.tmp 14) = .bool false := op_at hr_ 0 (by kernel_rfl) (by kernel_rfl)
            clear hr_
            go_simp; first | done | with_reducible rfl | omega
          simp only [Act.put, planVG, List.setIfInBounds_toArray, List.set_cons_zero, List.set_cons_succ, List.getElem?_cons_zero, List.getElem?_cons_succ]
          refine ⟨?_, ?_⟩
          · as_aux_lemma =>
            intro y_ hS_ hO_ hD
            clear hS_ hO_ hD
            refine s_gen (V := .bool true) [.bool false, .bool false] (by kernel_rfl) (by kernel_rfl) (by kernel_rfl) ?_
            intro r_ hr_
            have o0_ : r_ (.tmp 90) = .bool false := op_at hr_ 0 (by kernel_rfl) (by kernel_rfl)
            have o1_ : r_ (.tmp 91) = .bool false := op_at hr_ 1 (by kernel_rfl) (by kernel_rfl)
            clear hr_
            go_simp; first | done | with_reducible rfl | omega
          simp only [Act.put, planVG, List.setIfInBounds_toArray, List.set_cons_zero, List.set_cons_succ, List.getElem?_cons_zero, List.getElem?_cons_succ]
          refine ⟨?_, ?_⟩
          · as_aux_lemma =>
            intro y_ hS_ hO_ hD
            clear hS_ hO_ hD
            refine s_gen (V := .bool true) [.bool true, .bool true, .bool false] (by kernel_rfl) (by kernel_rfl) (by kernel_rfl) ?_
            intro r_ hr_
            have o0_ : r_ (.tmp 89) = .bool true := op_at hr_ 0 (by kernel_rfl) (by kernel_rfl)
            have o1_ : r_ (.tmp 92) = .bool true := op_at hr_ 1 (by kernel_rfl) (by kernel_rfl)
            have o2_ : r_ (.const (.bool false)) = .bool false := op_at hr_ 2 (by kernel_rfl) (by kernel_rfl)
            clear hr_
            go_simp; first | done | with_reducible rfl | omega
          simp only [Act.put, planVG, List.setIfInBounds_toArray, List.set_cons_zero, List.set_cons_succ, List.getElem?_cons_zero, List.getElem?_cons_succ]
          refine ⟨?_, ?_⟩
          · as_aux_lemma =>
            intro y_ hS_ hO_ hD
            clear hS_ hO_ hD
            refine s_gen (V := .bool true) [.bool true] (by kernel_rfl) (by kernel_rfl) (by kernel_rfl) ?_
            intro r_ hr_
            have o0_ : r_ (.tmp 93) = .bool true := op_at hr_ 0 (by kernel_rfl) (by kernel_rfl)
            clear hr_
            go_simp; first | done | with_reducible rfl | omega
          simp only [Act.put, planVG, List.setIfInBounds_toArray, List.set_cons_zero, List.set_cons_succ, List.getElem?_cons_zero, List.getElem?_cons_succ]
          refine ⟨?_, ?_⟩
          · as_aux_lemma =>
            intro y_ hS_ hO_ hD
            have Q := ((hS_ (by rfl)).2.2.1).cell
            have q0 := Q 0 _ rfl
            have q1 := Q 1 _ rfl
            have q2 := Q 2 _ rfl
            have q3 := Q 3 _ rfl
            have q4 := Q 4 _ rfl
            clear Q hS_ hO_ hD
            refine s_gen (V := termV x A) [.pointer (some ⟨w.heap.size, 0, none⟩)] (by kernel_rfl) (by kernel_rfl) (by kernel_rfl) ?_
            intro r_ hr_
            have o0_ : r_ (.tmp 3) = .pointer (some ⟨w.heap.size, 0, none⟩) := op_at hr_ 0 (by kernel_rfl) (by kernel_rfl)
            clear hr_
            go_simp; first | done | with_reducible rfl
          simp only [Act.put, planVG, List.setIfInBounds_toArray, List.set_cons_zero, List.set_cons_succ, List.getElem?_cons_zero, List.getElem?_cons_succ]
          refine ⟨?_, ?_⟩
          · as_aux_lemma =>
            intro y_ hS_ hO_ hD
            have Q := ((hS_ (by rfl)).2.2.2.1).cell
            have q0 := Q 0 _ rfl
            have q1 := Q 1 _ rfl
            have q2 := Q 2 _ rfl
            have q3 := Q 3 _ rfl
            have q4 := Q 4 _ rfl
            clear Q hS_ hO_ hD
            refine s_gen (V := termV y B) [.pointer (some ⟨w.heap.size + 1, 0, none⟩)] (by kernel_rfl) (by kernel_rfl) (by kernel_rfl) ?_
            intro r_ hr_
            have o0_ : r_ (.tmp 4) = .pointer (some ⟨w.heap.size + 1, 0, none⟩) := op_at hr_ 0 (by kernel_rfl) (by kernel_rfl)
            clear hr_
            go_simp; first | done | with_reducible rfl
          simp only [Act.put, planVG, List.setIfInBounds_toArray, List.set_cons_zero, List.set_cons_succ, List.getElem?_cons_zero, List.getElem?_cons_succ]
          refine ⟨?_, ?_⟩
          · as_aux_lemma =>
            intro y_ hS_ hO_ hD
            try clear hS
            clear hS_ hO_ hD
            refine s_gcall (V := .int .i64 (c)) [.func (.func 51) #[] #[], termV x A, termV y B] ?_ ?_ (by kernel_rfl) (by kernel_rfl) (by kernel_rfl) ?_ ?_
            rotate_left 2
            · intro r_ hr_
              have o0_ : r_ (.func 51) = .func (.func 51) #[] #[] := op_at hr_ 0 (by kernel_rfl) (by kernel_rfl)
              have o1_ : r_ (.tmp 95) = termV x A := op_at hr_ 1 (by kernel_rfl) (by kernel_rfl)
              have o2_ : r_ (.tmp 96) = termV y B := op_at hr_ 2 (by kernel_rfl) (by kernel_rfl)
              clear hr_
              go_simp; first | done | with_reducible rfl | (constructor <;> with_reducible rfl)
            · refine H5.out _
          simp only [Act.put, planVG, List.setIfInBounds_toArray, List.set_cons_zero, List.set_cons_succ, List.getElem?_cons_zero, List.getElem?_cons_succ]
          refine ⟨?_, ?_⟩
          · as_aux_lemma =>
            intro y_ hS_ hO_ hD
            have Q := ((hS_ (by rfl)).2.2.2.2.1).cell
            have q0 := Q 0 _ rfl
            have q1 := Q 1 _ rfl
            have q2 := Q 2 _ rfl
            have q3 := Q 3 _ rfl
            have q4 := Q 4 _ rfl
            clear Q hS_ hO_ hD
            refine s_gen (V := termV (x + d) A) [.pointer (some ⟨v2_2, 0, none⟩)] (by kernel_rfl) (by kernel_rfl) (by kernel_rfl) ?_
            intro r_ hr_
            have o0_ : r_ (.tmp 7) = .pointer (some ⟨v2_2, 0, none⟩) := op_at hr_ 0 (by kernel_rfl) (by kernel_rfl)
            clear hr_
            go_simp; first | done | with_reducible rfl
          simp only [Act.put, planVG, List.setIfInBounds_toArray, List.set_cons_zero, List.set_cons_succ, List.getElem?_cons_zero, List.getElem?_cons_succ]
          refine ⟨?_, ?_⟩
          · as_aux_lemma =>
            intro y_ hS_ hO_ hD
            have Q := ((hS_ (by rfl)).2.2.2.2.2.1).cell
            have q0 := Q 0 _ rfl
            have q1 := Q 1 _ rfl
            have q2 := Q 2 _ rfl
            have q3 := Q 3 _ rfl
            have q4 := Q 4 _ rfl
            clear Q hS_ hO_ hD
            refine s_gen (V := termV (y + d) B) [.pointer (some ⟨v2_3, 0, none⟩)] (by kernel_rfl) (by kernel_rfl) (by kernel_rfl) ?_
            intro r_ hr_
            have o0_ : r_ (.tmp 8) = .pointer (some ⟨v2_3, 0, none⟩) := op_at hr_ 0 (by kernel_rfl) (by kernel_rfl)
            clear hr_
            go_simp; first | done | with_reducible rfl
          simp only [Act.put, planVG, List.setIfInBounds_toArray, List.set_cons_zero, List.set_cons_succ, List.getElem?_cons_zero, List.getElem?_cons_succ]
          refine ⟨?_, ?_⟩
          · as_aux_lemma =>
            intro y_ hS_ hO_ hD
            try clear hS
            clear hS_ hO_ hD
            refine s_gcall (V := .int .i64 (c)) [.func (.func 51) #[] #[], termV (x + d) A, termV (y + d) B] ?_ ?_ (by kernel_rfl) (by kernel_rfl) (by kernel_rfl) ?_ ?_
            rotate_left 2
            · intro r_ hr_
              have o0_ : r_ (.func 51) = .func (.func 51) #[] #[] := op_at hr_ 0 (by kernel_rfl) (by kernel_rfl)
              have o1_ : r_ (.tmp 98) = termV (x + d) A := op_at hr_ 1 (by kernel_rfl) (by kernel_rfl)
              have o2_ : r_ (.tmp 99) = termV (y + d) B := op_at hr_ 2 (by kernel_rfl) (by kernel_rfl)
              clear hr_
              go_simp; first | done | with_reducible rfl | (constructor <;> with_reducible rfl)
            · refine H6.out _
          simp only [Act.put, planVG, List.setIfInBounds_toArray, List.set_cons_zero, List.set_cons_succ, List.getElem?_cons_zero, List.getElem?_cons_succ]
          refine ⟨?_, ?_⟩
          · as_aux_lemma =>
            intro y_ hS_ hO_ hD
            clear hS_ hO_ hD
            refine s_gen (V := .bool true) [.int .i64 (c), .int .i64 (c)] (by kernel_rfl) (by kernel_rfl) (by kernel_rfl) ?_
            intro r_ hr_
            have o0_ : r_ (.tmp 97) = .int .i64 (c) := op_at hr_ 0 (by kernel_rfl) (by kernel_rfl)
            have o1_ : r_ (.tmp 100) = .int .i64 (c) := op_at hr_ 1 (by kernel_rfl) (by kernel_rfl)
            clear hr_
            go_simp; first | done | with_reducible rfl | omega
          simp only [Act.put, planVG, List.setIfInBounds_toArray, List.set_cons_zero, List.set_cons_succ, List.getElem?_cons_zero, List.getElem?_cons_succ]
          refine ⟨?_, ?_⟩
          · as_aux_lemma =>
            intro y_ hS_ hO_ hD
            clear hS_ hO_ hD
            refine s_gen (V := .bool true) [.bool true, .bool true, .bool false] (by kernel_rfl) (by kernel_rfl) (by kernel_rfl) ?_
            intro r_ hr_
            have o0_ : r_ (.tmp 94) = .bool true := op_at hr_ 0 (by kernel_rfl) (by kernel_rfl)
            have o1_ : r_ (.tmp 101) = .bool true := op_at hr_ 1 (by kernel_rfl) (by kernel_rfl)
            have o2_ : r_ (.const (.bool false)) = .bool false := op_at hr_ 2 (by kernel_rfl) (by kernel_rfl)
            clear hr_
            go_simp; first | done | with_reducible rfl | omega
          simp only [Act.put, planVG, List.setIfInBounds_toArray, List.set_cons_zero, List.set_cons_succ, List.getElem?_cons_zero, List.getElem?_cons_succ]
          refine ⟨?_, ?_⟩
          · as_aux_lemma =>
            intro y_ hS_ hO_ hD
            clear hS_ hO_ hD
            refine s_gen (V := .bool true) [.bool true] (by kernel_rfl) (by kernel_rfl) (by kernel_rfl) ?_
            intro r_ hr_
            have o0_ : r_ (.tmp 102) = .bool true := op_at hr_ 0 (by kernel_rfl) (by kernel_rfl)
            clear hr_
            go_simp; first | done | with_reducible rfl | omega
          simp only [Act.put, planVG, List.setIfInBounds_toArray, List.set_cons_zero, List.set_cons_succ, List.getElem?_cons_zero, List.getElem?_cons_succ]
          refine ⟨?_, ?_⟩
          · as_aux_lemma =>
            intro y_ hS_ hO_ hD
            try clear hS
            clear hS_ hO_ hD
            refine s_gcall (V := .bool true) [.func (.func 50) #[] #[]] ?_ ?_ (by kernel_rfl) (by kernel_rfl) (by kernel_rfl) ?_ ?_
            rotate_left 2
            · intro r_ hr_
              have o0_ : r_ (.func 50) = .func (.func 50) #[] #[] := op_at hr_ 0 (by kernel_rfl) (by kernel_rfl)
              clear hr_
              go_simp; first | done | with_reducible rfl | (constructor <;> with_reducible rfl)
            · refine goes17_any _
          simp only [Act.put, planVG, List.setIfInBounds_toArray, List.set_cons_zero, List.set_cons_succ, List.getElem?_cons_zero, List.getElem?_cons_succ]
          refine ⟨?_, ?_⟩
          · as_aux_lemma =>
            intro y_ hS_ hO_ hD
            clear hS_ hO_ hD
            refine s_gen (V := .bool true) [.bool true, .bool true, .bool false] (by kernel_rfl) (by kernel_rfl) (by kernel_rfl) ?_
            intro r_ hr_
            have o0_ : r_ (.tmp 103) = .bool true := op_at hr_ 0 (by kernel_rfl) (by kernel_rfl)
            have o1_ : r_ (.tmp 104) = .bool true := op_at hr_ 1 (by kernel_rfl) (by kernel_rfl)
            have o2_ : r_ (.const (.bool false)) = .bool false := op_at hr_ 2 (by kernel_rfl) (by kernel_rfl)
            clear hr_
            go_simp; first | done | with_reducible rfl | omega
          simp only [Act.put, planVG, List.setIfInBounds_toArray, List.set_cons_zero, List.set_cons_succ, List.getElem?_cons_zero, List.getElem?_cons_succ]
          refine ⟨?_, ?_⟩
          · as_aux_lemma =>
            intro y_ hS_ hO_ hD
            clear hS_ hO_ hD
            refine s_gen (V := .bool true) [.bool true] (by kernel_rfl) (by kernel_rfl) (by kernel_rfl) ?_
            intro r_ hr_
            have o0_ : r_ (.tmp 105) = .bool true := op_at hr_ 0 (by kernel_rfl) (by kernel_rfl)
            clear hr_
            go_simp; first | done | with_reducible rfl | omega
          simp only [Act.put, planVG, List.setIfInBounds_toArray, List.set_cons_zero, List.set_cons_succ, List.getElem?_cons_zero, List.getElem?_cons_succ]
          as_aux_lemma =>
            intro w7 hS hF hD_
            change wpList _ _ _ _ _ _
            replace hS := sg_no (by decide) hS
            obtain ⟨hk, hZ7, X1, X2, Bv2_2, Bv2_3, Bv4_6, Bv4_7, X3, X4⟩ := hS
            clear hF hD_
            clear ρ
            have hz_w7 := hk.size
            have X1l := X1.lt
            have X1f := X1.free
            have X1l1 : w.heap.size < w7.heap.size + 1 := by omega
            have X1l2 : w.heap.size < w7.heap.size + 1 + 1 := by omega
            have X1l3 : w.heap.size < w7.heap.size + 1 + 1 + 1 := by omega
            have X10 := X1.cell 0 _ rfl
            have X11 := X1.cell 1 _ rfl
            have X12 := X1.cell 2 _ rfl
            have X13 := X1.cell 3 _ rfl
            have X14 := X1.cell 4 _ rfl
            have X2l := X2.lt
            have X2f := X2.free
            have X2l1 : w.heap.size + 1 < w7.heap.size + 1 := by omega
            have X2l2 : w.heap.size + 1 < w7.heap.size + 1 + 1 := by omega
            have X2l3 : w.heap.size + 1 < w7.heap.size + 1 + 1 + 1 := by omega
            have X20 := X2.cell 0 _ rfl
            have X21 := X2.cell 1 _ rfl
            have X22 := X2.cell 2 _ rfl
            have X23 := X2.cell 3 _ rfl
            have X24 := X2.cell 4 _ rfl
            have Bv2_2l := Bv2_2.lt
            have Bv2_2f := Bv2_2.free
            have Bv2_2l1 : v2_2 < w7.heap.size + 1 := by omega
            have Bv2_2l2 : v2_2 < w7.heap.size + 1 + 1 := by omega
            have Bv2_2l3 : v2_2 < w7.heap.size + 1 + 1 + 1 := by omega
            have Bv2_20 := Bv2_2.cell 0 _ rfl
            have Bv2_21 := Bv2_2.cell 1 _ rfl
            have Bv2_22 := Bv2_2.cell 2 _ rfl
            have Bv2_23 := Bv2_2.cell 3 _ rfl
            have Bv2_24 := Bv2_2.cell 4 _ rfl
            have Bv2_3l := Bv2_3.lt
            have Bv2_3f := Bv2_3.free
            have Bv2_3l1 : v2_3 < w7.heap.size + 1 := by omega
            have Bv2_3l2 : v2_3 < w7.heap.size + 1 + 1 := by omega
            have Bv2_3l3 : v2_3 < w7.heap.size + 1 + 1 + 1 := by omega
            have Bv2_30 := Bv2_3.cell 0 _ rfl
            have Bv2_31 := Bv2_3.cell 1 _ rfl
            have Bv2_32 := Bv2_3.cell 2 _ rfl
            have Bv2_33 := Bv2_3.cell 3 _ rfl
            have Bv2_34 := Bv2_3.cell 4 _ rfl
            have Bv4_6l := Bv4_6.lt
            have Bv4_6f := Bv4_6.free
            have Bv4_6l1 : v4_6 < w7.heap.size + 1 := by omega
            have Bv4_6l2 : v4_6 < w7.heap.size + 1 + 1 := by omega
            have Bv4_6l3 : v4_6 < w7.heap.size + 1 + 1 + 1 := by omega
            have Bv4_60 := Bv4_6.cell 0 _ rfl
            have Bv4_61 := Bv4_6.cell 1 _ rfl
            have Bv4_62 := Bv4_6.cell 2 _ rfl
            have Bv4_63 := Bv4_6.cell 3 _ rfl
            have Bv4_64 := Bv4_6.cell 4 _ rfl
            have Bv4_7l := Bv4_7.lt
            have Bv4_7f := Bv4_7.free
            have Bv4_7l1 : v4_7 < w7.heap.size + 1 := by omega
            have Bv4_7l2 : v4_7 < w7.heap.size + 1 + 1 := by omega
            have Bv4_7l3 : v4_7 < w7.heap.size + 1 + 1 + 1 := by omega
            have Bv4_70 := Bv4_7.cell 0 _ rfl
            have Bv4_71 := Bv4_7.cell 1 _ rfl
            have Bv4_72 := Bv4_7.cell 2 _ rfl
            have Bv4_73 := Bv4_7.cell 3 _ rfl
            have Bv4_74 := Bv4_7.cell 4 _ rfl
            have X3l := X3.lt
            have X3f := X3.free
            have X3l1 : w5.heap.size < w7.heap.size + 1 := by omega
            have X3l2 : w5.heap.size < w7.heap.size + 1 + 1 := by omega
            have X3l3 : w5.heap.size < w7.heap.size + 1 + 1 + 1 := by omega
            have X30 := X3.cell 0 _ rfl
            have X31 := X3.cell 1 _ rfl
            have X32 := X3.cell 2 _ rfl
            have X33 := X3.cell 3 _ rfl
            have X34 := X3.cell 4 _ rfl
            have X4l := X4.lt
            have X4f := X4.free
            have X4l1 : w6.heap.size < w7.heap.size + 1 := by omega
            have X4l2 : w6.heap.size < w7.heap.size + 1 + 1 := by omega
            have X4l3 : w6.heap.size < w7.heap.size + 1 + 1 + 1 := by omega
            have X40 := X4.cell 0 _ rfl
            have X41 := X4.cell 1 _ rfl
            have X42 := X4.cell 2 _ rfl
            have X43 := X4.cell 3 _ rfl
            have X44 := X4.cell 4 _ rfl
            go_wp2
            go_ret
            exact ⟨rfl, (by refine Kept.below ?_; repeat (first | with_reducible exact hk | with_reducible exact Kept.refl _ | with_reducible refine Kept.alloc ?_ _ | with_reducible refine Kept.drew ?_ | with_reducible refine Kept.setCell ?_ (by simp only [World.size_alloc, World.size_setCell, World.size_drew]; omega) _))⟩

set_option maxRecDepth 100000 in
set_option maxHeartbeats 8000000 in
theorem MagScale_1 {x0 x1 x y0 y1 y d l m c : Int} {A B S T : Nat} (hA : W256 A) (hB : W256 B) (hSs : W256 S) (hTt : W256 T) (m1 : (if 1073741824 < x0 then 1073741824 else x0) = x1) (m2 : (if -1073741824 < x1 then x1 else -1073741824) = x) (m3 : (if 1073741824 < y0 then 1073741824 else y0) = y1) (m4 : (if -1073741824 < y1 then y1 else -1073741824) = y) (rx : -1073741824 ≤ x ∧ x ≤ 1073741824) (ry : -1073741824 ≤ y ∧ y ≤ 1073741824) (rd : -32768 ≤ d ∧ d ≤ 32767) (rl : -1099511627777 ≤ l ∧ l ≤ 1099511627777) (rm : -1099511627777 ≤ m ∧ m ≤ 1099511627777) (h1 : ∀ w, Calls Try.prog 47 #[termV x A, termV y B] w fun e w' => e = .returned (termV l S) ∧ Below w.heap.size w w') (h2 : ∀ w, Calls Try.prog 47 #[termV (x + d) A, termV (y + d) B] w fun e w' => e = .returned (termV (l + d) S) ∧ Below w.heap.size w w') (h3 : ∀ w, Calls Try.prog 49 #[termV x A, termV y B] w fun e w' => e = .returned (.tuple #[termV m T, .bool true]) ∧ Below w.heap.size w w') (h4 : ∀ w, Calls Try.prog 49 #[termV (x + d) A, termV (y + d) B] w fun e w' => e = .returned (.tuple #[termV (m + d) T, .bool true]) ∧ Below w.heap.size w w') (h5 : ∀ w, Calls Try.prog 51 #[termV x A, termV y B] w fun e w' => e = .returned (.int .i64 c) ∧ Below w.heap.size w w') (h6 : ∀ w, Calls Try.prog 51 #[termV (x + d) A, termV (y + d) B] w fun e w' => e = .returned (.int .i64 c) ∧ Below w.heap.size w w') (w : World) :
    Calls Try.prog 10 #[termV x0 A, termV y0 B, .int .i16 d] w fun e w' => e = .returned (.bool true) ∧ Below w.heap.size w w' := by
  have hk := Kept.refl w
  have H1 := Lib.hid h1
  have H2 := Lib.hid h2
  have H3 := Lib.hid h3
  have H4 := Lib.hid h4
  have H5 := Lib.hid h5
  have H6 := Lib.hid h6
  have w0_ : IntKind.i64.wrap d = d := IntWalk.i64_in _ (by omega)
  have w1_ : IntKind.i64.wrap (x + d) = x + d := IntWalk.i64_in _ (by omega)
  have w2_ : IntKind.i64.wrap (y + d) = y + d := IntWalk.i64_in _ (by omega)
  have w3_ : IntKind.i64.wrap (l + d) = l + d := IntWalk.i64_in _ (by omega)
  have w4_ : IntKind.i64.wrap (m + d) = m + d := IntWalk.i64_in _ (by omega)
  clear h1 h2 h3 h4 h5 h6
  go_enter Try.func10, Try.ntmps10
  go_wp2
  refine wp_region_g 10 (fun W' => Kept w.heap.size w W' ∧ w.heap.size + 1 + 1 ≤ W'.heap.size ∧ Box W' (w.heap.size) #[.int .i64 (x0), .int .u64 (limb 0 A), .int .u64 (limb 1 A), .int .u64 (limb 2 A), .int .u64 (limb 3 A)] ∧ Box W' (w.heap.size + 1) #[.int .i64 (y0), .int .u64 (limb 0 B), .int .u64 (limb 1 B), .int .u64 (limb 2 B), .int .u64 (limb 3 B)]) (fun W' => Kept w.heap.size w W' ∧ w.heap.size + 1 + 1 ≤ W'.heap.size ∧ Box W' (w.heap.size) #[.int .i64 (x), .int .u64 (limb 0 A), .int .u64 (limb 1 A), .int .u64 (limb 2 A), .int .u64 (limb 3 A)] ∧ Box W' (w.heap.size + 1) #[.int .i64 (y0), .int .u64 (limb 0 B), .int .u64 (limb 1 B), .int .u64 (limb 2 B), .int .u64 (limb 3 B)]) 9 (w.heap.size + 1 + 1) [.known (.pointer (some ⟨w.heap.size, 0, none⟩)), .known (.int .i64 (x0)), .known (.int .i64 (x1)), .known (.int .i64 (x)), .known (.pointer (some ⟨w.heap.size + 1, 0, none⟩)), .known (.int .i64 (y0)), .known (.int .i64 (y1)), .known (.int .i64 (y)), .known (.pointer (some ⟨w.heap.size, 0, none⟩)), .out (w.heap.size) [.int .i64 (x), .int .u64 (limb 0 A), .int .u64 (limb 1 A), .int .u64 (limb 2 A), .int .u64 (limb 3 A)]] (by kernel_rfl) (by kernel_rfl) (fun W W' h hb => ⟨h.1.step hb, Nat.le_trans (h.2.1) hb.size, Box.call hb (h.2.2.1), Box.call hb (h.2.2.2)⟩) (fun W W' h hb => ⟨h.1.step hb, Nat.le_trans (h.2.1) hb.size, Box.call hb (h.2.2.1), Box.call hb (h.2.2.2)⟩) (fun b V e => by
    obtain ⟨rfl, rfl⟩ : w.heap.size = b ∧ [.int .i64 (x), .int .u64 (limb 0 A), .int .u64 (limb 1 A), .int .u64 (limb 2 A), .int .u64 (limb 3 A)] = V := by injection e with e; injection e with e1 e2; exact ⟨e1, e2⟩
    exact ⟨by omega, fun w' h => ⟨(by simp only [putCells]; exact (((((h.1).setCell (p := ⟨w.heap.size, 0, none⟩) (by simp only []; omega) _).setCell (p := ⟨w.heap.size, 1, none⟩) (by simp only []; omega) _).setCell (p := ⟨w.heap.size, 2, none⟩) (by simp only []; omega) _).setCell (p := ⟨w.heap.size, 3, none⟩) (by simp only []; omega) _).setCell (p := ⟨w.heap.size, 4, none⟩) (by simp only []; omega) _), (by rw [putCells_size]; exact h.2.1), (by simp only [putCells]; with_reducible apply Box.set54; with_reducible apply Box.set53; with_reducible apply Box.set52; with_reducible apply Box.set51; with_reducible apply Box.set50; exact h.2.2.1), (by simp only [putCells]; exact (((((h.2.2.2).other (by omega)).other (by omega)).other (by omega)).other (by omega)).other (by omega))⟩⟩) (.inl (by kernel_rfl)) (.inl (by kernel_rfl)) (fun _ h => h.2.1) (fun _ h => h.2.1) (⟨(by repeat (first | with_reducible exact hk | with_reducible exact Kept.refl _ | with_reducible refine Kept.alloc ?_ _ | with_reducible refine Kept.drew ?_ | with_reducible refine Kept.setCell ?_ (by simp only [World.size_alloc, World.size_setCell, World.size_drew]; omega) _)), (by (try simp only [World.size_alloc, World.size_setCell, World.size_drew]); omega), (by repeat (first | with_reducible assumption | with_reducible apply Box.set10 | with_reducible apply Box.set20 | with_reducible apply Box.set21 | with_reducible apply Box.set40 | with_reducible apply Box.set41 | with_reducible apply Box.set42 | with_reducible apply Box.set43 | with_reducible apply Box.set50 | with_reducible apply Box.set51 | with_reducible apply Box.set52 | with_reducible apply Box.set53 | with_reducible apply Box.set54 | with_reducible apply Box.set80 | with_reducible apply Box.set81 | with_reducible apply Box.set82 | with_reducible apply Box.set83 | with_reducible apply Box.set84 | with_reducible apply Box.set85 | with_reducible apply Box.set86 | with_reducible apply Box.set87 | with_reducible apply Box.drew | (with_reducible apply Box.newAt; (try simp only [World.size_alloc, World.size_setCell, World.size_drew]); done) | with_reducible apply Box.alloc | (with_reducible apply Box.other; case hne => ((try simp only [World.size_alloc, World.size_setCell, World.size_drew]); omega)))), (by repeat (first | with_reducible assumption | with_reducible apply Box.set10 | with_reducible apply Box.set20 | with_reducible apply Box.set21 | with_reducible apply Box.set40 | with_reducible apply Box.set41 | with_reducible apply Box.set42 | with_reducible apply Box.set43 | with_reducible apply Box.set50 | with_reducible apply Box.set51 | with_reducible apply Box.set52 | with_reducible apply Box.set53 | with_reducible apply Box.set54 | with_reducible apply Box.set80 | with_reducible apply Box.set81 | with_reducible apply Box.set82 | with_reducible apply Box.set83 | with_reducible apply Box.set84 | with_reducible apply Box.set85 | with_reducible apply Box.set86 | with_reducible apply Box.set87 | with_reducible apply Box.drew | (with_reducible apply Box.newAt; (try simp only [World.size_alloc, World.size_setCell, World.size_drew]); done) | with_reducible apply Box.alloc | (with_reducible apply Box.other; case hne => ((try simp only [World.size_alloc, World.size_setCell, World.size_drew]); omega))))⟩) ?_
  clear hk
  intro ρ
  simp only [List.take_succ_cons, List.take_zero, List.drop_succ_cons, List.drop_zero]
  refine ⟨?_, ?_⟩
  · as_aux_lemma =>
    intro y_ hS_ hO_ hD
    clear hS_ hO_ hD
    refine s_gen (V := .pointer (some ⟨w.heap.size, 0, none⟩)) [.pointer (some ⟨w.heap.size, 0, none⟩)] (by kernel_rfl) (by kernel_rfl) (by kernel_rfl) ?_
    intro r_ hr_
    have o0_ : r_ (.tmp 3) = .pointer (some ⟨w.heap.size, 0, none⟩) := op_at hr_ 0 (by kernel_rfl) (by kernel_rfl)
    clear hr_
    go_simp; first | done | with_reducible rfl | omega
  simp only [Act.put, planVG, List.setIfInBounds_toArray, List.set_cons_zero, List.set_cons_succ, List.getElem?_cons_zero, List.getElem?_cons_succ]
  refine ⟨?_, ?_⟩
  · as_aux_lemma =>
    intro y_ hS_ hO_ hD
    have Q := ((hS_ (by rfl)).2.2.1).cell
    have q0 := Q 0 _ rfl
    have q1 := Q 1 _ rfl
    have q2 := Q 2 _ rfl
    have q3 := Q 3 _ rfl
    have q4 := Q 4 _ rfl
    clear Q hS_ hO_ hD
    refine s_gen (V := .int .i64 (x0)) [.pointer (some ⟨w.heap.size, 0, none⟩)] (by kernel_rfl) (by kernel_rfl) (by kernel_rfl) ?_
    intro r_ hr_
    have o0_ : r_ (.tmp 15) = .pointer (some ⟨w.heap.size, 0, none⟩) := op_at hr_ 0 (by kernel_rfl) (by kernel_rfl)
    clear hr_
    go_simp; first | done | with_reducible rfl
  simp only [Act.put, planVG, List.setIfInBounds_toArray, List.set_cons_zero, List.set_cons_succ, List.getElem?_cons_zero, List.getElem?_cons_succ]
  refine ⟨?_, ?_⟩
  · as_aux_lemma =>
    intro y_ hS_ hO_ hD
    clear hS_ hO_ hD
    refine s_gen (V := .int .i64 (x1)) [.int .i64 (x0), .int .i64 1073741824] (by kernel_rfl) (by kernel_rfl) (by kernel_rfl) ?_
    intro r_ hr_
    have o0_ : r_ (.tmp 16) = .int .i64 (x0) := op_at hr_ 0 (by kernel_rfl) (by kernel_rfl)
    have o1_ : r_ (.const (.int .i64 1073741824)) = .int .i64 1073741824 := op_at hr_ 1 (by kernel_rfl) (by kernel_rfl)
    clear hr_
    go_simp; first | done | with_reducible rfl | omega
  simp only [Act.put, planVG, List.setIfInBounds_toArray, List.set_cons_zero, List.set_cons_succ, List.getElem?_cons_zero, List.getElem?_cons_succ]
  refine ⟨?_, ?_⟩
  · as_aux_lemma =>
    intro y_ hS_ hO_ hD
    clear hS_ hO_ hD
    refine s_gen (V := .int .i64 (x)) [.int .i64 (-1073741824), .int .i64 (x1)] (by kernel_rfl) (by kernel_rfl) (by kernel_rfl) ?_
    intro r_ hr_
    have o0_ : r_ (.const (.int .i64 (-1073741824))) = .int .i64 (-1073741824) := op_at hr_ 0 (by kernel_rfl) (by kernel_rfl)
    have o1_ : r_ (.tmp 17) = .int .i64 (x1) := op_at hr_ 1 (by kernel_rfl) (by kernel_rfl)
    clear hr_
    go_simp; first | done | with_reducible rfl | omega
  simp only [Act.put, planVG, List.setIfInBounds_toArray, List.set_cons_zero, List.set_cons_succ, List.getElem?_cons_zero, List.getElem?_cons_succ]
  refine ⟨?_, ?_⟩
  · as_aux_lemma =>
    intro y_ hS_ hO_ hD
    clear hS_ hO_ hD
    refine s_gen (V := .pointer (some ⟨w.heap.size + 1, 0, none⟩)) [.pointer (some ⟨w.heap.size + 1, 0, none⟩)] (by kernel_rfl) (by kernel_rfl) (by kernel_rfl) ?_
    intro r_ hr_
    have o0_ : r_ (.tmp 4) = .pointer (some ⟨w.heap.size + 1, 0, none⟩) := op_at hr_ 0 (by kernel_rfl) (by kernel_rfl)
    clear hr_
    go_simp; first | done | with_reducible rfl | omega
  simp only [Act.put, planVG, List.setIfInBounds_toArray, List.set_cons_zero, List.set_cons_succ, List.getElem?_cons_zero, List.getElem?_cons_succ]
  refine ⟨?_, ?_⟩
  · as_aux_lemma =>
    intro y_ hS_ hO_ hD
    have Q := (hO_.elim (fun h => h.2.2.2) (fun h => h.2.2.2)).cell
    have q0 := Q 0 _ rfl
    have q1 := Q 1 _ rfl
    have q2 := Q 2 _ rfl
    have q3 := Q 3 _ rfl
    have q4 := Q 4 _ rfl
    clear Q hS_ hO_ hD
    refine s_gen (V := .int .i64 (y0)) [.pointer (some ⟨w.heap.size + 1, 0, none⟩)] (by kernel_rfl) (by kernel_rfl) (by kernel_rfl) ?_
    intro r_ hr_
    have o0_ : r_ (.tmp 19) = .pointer (some ⟨w.heap.size + 1, 0, none⟩) := op_at hr_ 0 (by kernel_rfl) (by kernel_rfl)
    clear hr_
    go_simp; first | done | with_reducible rfl
  simp only [Act.put, planVG, List.setIfInBounds_toArray, List.set_cons_zero, List.set_cons_succ, List.getElem?_cons_zero, List.getElem?_cons_succ]
  refine ⟨?_, ?_⟩
  · as_aux_lemma =>
    intro y_ hS_ hO_ hD
    clear hS_ hO_ hD
    refine s_gen (V := .int .i64 (y1)) [.int .i64 (y0), .int .i64 1073741824] (by kernel_rfl) (by kernel_rfl) (by kernel_rfl) ?_
    intro r_ hr_
    have o0_ : r_ (.tmp 20) = .int .i64 (y0) := op_at hr_ 0 (by kernel_rfl) (by kernel_rfl)
    have o1_ : r_ (.const (.int .i64 1073741824)) = .int .i64 1073741824 := op_at hr_ 1 (by kernel_rfl) (by kernel_rfl)
    clear hr_
    go_simp; first | done | with_reducible rfl | omega
  simp only [Act.put, planVG, List.setIfInBounds_toArray, List.set_cons_zero, List.set_cons_succ, List.getElem?_cons_zero, List.getElem?_cons_succ]
  refine ⟨?_, ?_⟩
  · as_aux_lemma =>
    intro y_ hS_ hO_ hD
    clear hS_ hO_ hD
    refine s_gen (V := .int .i64 (y)) [.int .i64 (-1073741824), .int .i64 (y1)] (by kernel_rfl) (by kernel_rfl) (by kernel_rfl) ?_
    intro r_ hr_
    have o0_ : r_ (.const (.int .i64 (-1073741824))) = .int .i64 (-1073741824) := op_at hr_ 0 (by kernel_rfl) (by kernel_rfl)
    have o1_ : r_ (.tmp 21) = .int .i64 (y1) := op_at hr_ 1 (by kernel_rfl) (by kernel_rfl)
    clear hr_
    go_simp; first | done | with_reducible rfl | omega
  simp only [Act.put, planVG, List.setIfInBounds_toArray, List.set_cons_zero, List.set_cons_succ, List.getElem?_cons_zero, List.getElem?_cons_succ]
  refine ⟨?_, ?_⟩
  · as_aux_lemma =>
    intro y_ hS_ hO_ hD
    clear hS_ hO_ hD
    refine s_gen (V := .pointer (some ⟨w.heap.size, 0, none⟩)) [.pointer (some ⟨w.heap.size, 0, none⟩)] (by kernel_rfl) (by kernel_rfl) (by kernel_rfl) ?_
    intro r_ hr_
    have o0_ : r_ (.tmp 3) = .pointer (some ⟨w.heap.size, 0, none⟩) := op_at hr_ 0 (by kernel_rfl) (by kernel_rfl)
    clear hr_
    go_simp; first | done | with_reducible rfl | omega
  simp only [Act.put, planVG, List.setIfInBounds_toArray, List.set_cons_zero, List.set_cons_succ, List.getElem?_cons_zero, List.getElem?_cons_succ]
  refine ⟨?_, ?_⟩
  · as_aux_lemma =>
    intro y_ hS_ hO_ hD
    have HB_ := (hS_ (by rfl)).2.2.1
    have Q := ((hS_ (by rfl)).2.2.1).cell
    have q0 := Q 0 _ rfl
    have q1 := Q 1 _ rfl
    have q2 := Q 2 _ rfl
    have q3 := Q 3 _ rfl
    have q4 := Q 4 _ rfl
    have Qf := ((hS_ (by rfl)).2.2.1).free
    have Ql := ((hS_ (by rfl)).2.2.1).lt
    clear Q hS_ hO_ hD
    refine s_gout (b := w.heap.size) (V := [.int .i64 (x), .int .u64 (limb 0 A), .int .u64 (limb 1 A), .int .u64 (limb 2 A), .int .u64 (limb 3 A)]) [.pointer (some ⟨w.heap.size, 0, none⟩), .int .i64 (x)] (by kernel_rfl) (by kernel_rfl) (by kernel_rfl) ?_
    intro r_ hr_
    have o0_ : r_ (.tmp 23) = .pointer (some ⟨w.heap.size, 0, none⟩) := op_at hr_ 0 (by kernel_rfl) (by kernel_rfl)
    have o1_ : r_ (.tmp 18) = .int .i64 (x) := op_at hr_ 1 (by kernel_rfl) (by kernel_rfl)
    clear hr_
    rw [HB_.put_head]
    clear HB_
    go_simp; first | done | with_reducible rfl | rfl
  simp only [Act.put, planVG, List.setIfInBounds_toArray, List.set_cons_zero, List.set_cons_succ, List.getElem?_cons_zero, List.getElem?_cons_succ]
  as_aux_lemma =>
    intro w1 hS hF hD_
    change wpList _ _ _ _ _ _
    replace hS := sg_yes (by decide) hS
    obtain ⟨hk, hZ1, X1, X2⟩ := hS
    clear hF hD_
    clear ρ
    have hz_w1 := hk.size
    have X1l := X1.lt
    have X1f := X1.free
    have X1l1 : w.heap.size < w1.heap.size + 1 := by omega
    have X1l2 : w.heap.size < w1.heap.size + 1 + 1 := by omega
    have X1l3 : w.heap.size < w1.heap.size + 1 + 1 + 1 := by omega
    have X10 := X1.cell 0 _ rfl
    have X11 := X1.cell 1 _ rfl
    have X12 := X1.cell 2 _ rfl
    have X13 := X1.cell 3 _ rfl
    have X14 := X1.cell 4 _ rfl
    have X2l := X2.lt
    have X2f := X2.free
    have X2l1 : w.heap.size + 1 < w1.heap.size + 1 := by omega
    have X2l2 : w.heap.size + 1 < w1.heap.size + 1 + 1 := by omega
    have X2l3 : w.heap.size + 1 < w1.heap.size + 1 + 1 + 1 := by omega
    have X20 := X2.cell 0 _ rfl
    have X21 := X2.cell 1 _ rfl
    have X22 := X2.cell 2 _ rfl
    have X23 := X2.cell 3 _ rfl
    have X24 := X2.cell 4 _ rfl
    go_wp2
    refine wp_region_g 6 (fun W' => Kept w.heap.size w W' ∧ w1.heap.size ≤ W'.heap.size ∧ Box W' (w.heap.size) #[.int .i64 (x), .int .u64 (limb 0 A), .int .u64 (limb 1 A), .int .u64 (limb 2 A), .int .u64 (limb 3 A)] ∧ Box W' (w.heap.size + 1) #[.int .i64 (y), .int .u64 (limb 0 B), .int .u64 (limb 1 B), .int .u64 (limb 2 B), .int .u64 (limb 3 B)]) (fun W' => Kept w.heap.size w W' ∧ w1.heap.size ≤ W'.heap.size ∧ Box W' (w.heap.size) #[.int .i64 (x), .int .u64 (limb 0 A), .int .u64 (limb 1 A), .int .u64 (limb 2 A), .int .u64 (limb 3 A)] ∧ Box W' (w.heap.size + 1) #[.int .i64 (y), .int .u64 (limb 0 B), .int .u64 (limb 1 B), .int .u64 (limb 2 B), .int .u64 (limb 3 B)]) 1000 (w1.heap.size) [.known (termV x A), .known (termV y B), .var #[.int .i64 0, .int .u64 0, .int .u64 0, .int .u64 0, .int .u64 0] 4 [.int .i64 (x), .int .u64 (limb 0 A), .int .u64 (limb 1 A), .int .u64 (limb 2 A), .int .u64 (limb 3 A)], .var #[.int .i64 0, .int .u64 0, .int .u64 0, .int .u64 0, .int .u64 0] 5 [.int .i64 (y), .int .u64 (limb 0 B), .int .u64 (limb 1 B), .int .u64 (limb 2 B), .int .u64 (limb 3 B)], .put 2, .put 3] (by kernel_rfl) (by kernel_rfl) (fun W W' h hb => ⟨h.1.step hb, Nat.le_trans (h.2.1) hb.size, Box.call hb (h.2.2.1), Box.call hb (h.2.2.2)⟩) (fun W W' h hb => ⟨h.1.step hb, Nat.le_trans (h.2.1) hb.size, Box.call hb (h.2.2.1), Box.call hb (h.2.2.2)⟩) (no_out (of_decide_eq_true (by kernel_rfl))) (.inr (fun W' b i v hb h => ⟨h.1.setCell (p := ⟨b, i, none⟩) (by simp only []; omega) v, (by rw [World.size_setCell]; exact h.2.1), (h.2.2.1).other (by omega), (h.2.2.2).other (by omega)⟩)) (.inr (fun W' b i v hb h => ⟨h.1.setCell (p := ⟨b, i, none⟩) (by simp only []; omega) v, (by rw [World.size_setCell]; exact h.2.1), (h.2.2.1).other (by omega), (h.2.2.2).other (by omega)⟩)) (fun _ h => h.2.1) (fun _ h => h.2.1) (⟨(by repeat (first | with_reducible exact hk | with_reducible exact Kept.refl _ | with_reducible refine Kept.alloc ?_ _ | with_reducible refine Kept.drew ?_ | with_reducible refine Kept.setCell ?_ (by simp only [World.size_alloc, World.size_setCell, World.size_drew]; omega) _)), (by (try simp only [World.size_alloc, World.size_setCell, World.size_drew]); omega), (by repeat (first | with_reducible assumption | with_reducible apply Box.set10 | with_reducible apply Box.set20 | with_reducible apply Box.set21 | with_reducible apply Box.set40 | with_reducible apply Box.set41 | with_reducible apply Box.set42 | with_reducible apply Box.set43 | with_reducible apply Box.set50 | with_reducible apply Box.set51 | with_reducible apply Box.set52 | with_reducible apply Box.set53 | with_reducible apply Box.set54 | with_reducible apply Box.set80 | with_reducible apply Box.set81 | with_reducible apply Box.set82 | with_reducible apply Box.set83 | with_reducible apply Box.set84 | with_reducible apply Box.set85 | with_reducible apply Box.set86 | with_reducible apply Box.set87 | with_reducible apply Box.drew | (with_reducible apply Box.newAt; (try simp only [World.size_alloc, World.size_setCell, World.size_drew]); done) | with_reducible apply Box.alloc | (with_reducible apply Box.other; case hne => ((try simp only [World.size_alloc, World.size_setCell, World.size_drew]); omega)))), (by repeat (first | with_reducible assumption | with_reducible apply Box.set10 | with_reducible apply Box.set20 | with_reducible apply Box.set21 | with_reducible apply Box.set40 | with_reducible apply Box.set41 | with_reducible apply Box.set42 | with_reducible apply Box.set43 | with_reducible apply Box.set50 | with_reducible apply Box.set51 | with_reducible apply Box.set52 | with_reducible apply Box.set53 | with_reducible apply Box.set54 | with_reducible apply Box.set80 | with_reducible apply Box.set81 | with_reducible apply Box.set82 | with_reducible apply Box.set83 | with_reducible apply Box.set84 | with_reducible apply Box.set85 | with_reducible apply Box.set86 | with_reducible apply Box.set87 | with_reducible apply Box.drew | (with_reducible apply Box.newAt; (try simp only [World.size_alloc, World.size_setCell, World.size_drew]); done) | with_reducible apply Box.alloc | (with_reducible apply Box.other; case hne => ((try simp only [World.size_alloc, World.size_setCell, World.size_drew]); omega))))⟩) ?_
    clear hk
    clear X1 X1l1 X1l2 X1l3 X1f X10 X11 X12 X13 X14
    clear X2 X2l1 X2l2 X2l3 X2f X20 X21 X22 X23 X24
    intro ρ
    simp only [List.take_succ_cons, List.take_zero, List.drop_succ_cons, List.drop_zero]
    refine ⟨?_, ?_⟩
    · as_aux_lemma =>
      intro y_ hS_ hO_ hD
      have Q := ((hS_ (by rfl)).2.2.1).cell
      have q0 := Q 0 _ rfl
      have q1 := Q 1 _ rfl
      have q2 := Q 2 _ rfl
      have q3 := Q 3 _ rfl
      have q4 := Q 4 _ rfl
      clear Q hS_ hO_ hD
      refine s_gen (V := termV x A) [.pointer (some ⟨w.heap.size, 0, none⟩)] (by kernel_rfl) (by kernel_rfl) (by kernel_rfl) ?_
      intro r_ hr_
      have o0_ : r_ (.tmp 3) = .pointer (some ⟨w.heap.size, 0, none⟩) := op_at hr_ 0 (by kernel_rfl) (by kernel_rfl)
      clear hr_
      go_simp; first | done | with_reducible rfl
    simp only [Act.put, planVG, List.setIfInBounds_toArray, List.set_cons_zero, List.set_cons_succ, List.getElem?_cons_zero, List.getElem?_cons_succ]
    refine ⟨?_, ?_⟩
    · as_aux_lemma =>
      intro y_ hS_ hO_ hD
      have Q := ((hS_ (by rfl)).2.2.2).cell
      have q0 := Q 0 _ rfl
      have q1 := Q 1 _ rfl
      have q2 := Q 2 _ rfl
      have q3 := Q 3 _ rfl
      have q4 := Q 4 _ rfl
      clear Q hS_ hO_ hD
      refine s_gen (V := termV y B) [.pointer (some ⟨w.heap.size + 1, 0, none⟩)] (by kernel_rfl) (by kernel_rfl) (by kernel_rfl) ?_
      intro r_ hr_
      have o0_ : r_ (.tmp 4) = .pointer (some ⟨w.heap.size + 1, 0, none⟩) := op_at hr_ 0 (by kernel_rfl) (by kernel_rfl)
      clear hr_
      go_simp; first | done | with_reducible rfl
    simp only [Act.put, planVG, List.setIfInBounds_toArray, List.set_cons_zero, List.set_cons_succ, List.getElem?_cons_zero, List.getElem?_cons_succ]
    refine ⟨?_, ?_⟩
    · as_aux_lemma =>
      intro y_ hS_ hO_ hD
      clear hS_ hO_ hD
      refine s_alloc (by rfl) (by rfl) ?_
      simp only [allocTy]
      go_simp; first | done | with_reducible rfl | rfl
    simp only [Act.put, planVG, List.setIfInBounds_toArray, List.set_cons_zero, List.set_cons_succ, List.getElem?_cons_zero, List.getElem?_cons_succ]
    refine ⟨?_, ?_⟩
    · as_aux_lemma =>
      intro y_ hS_ hO_ hD
      clear hS_ hO_ hD
      refine s_alloc (by rfl) (by rfl) ?_
      simp only [allocTy]
      go_simp; first | done | with_reducible rfl | rfl
    simp only [Act.put, planVG, List.setIfInBounds_toArray, List.set_cons_zero, List.set_cons_succ, List.getElem?_cons_zero, List.getElem?_cons_succ]
    refine ⟨?_, ?_⟩
    · as_aux_lemma =>
      intro y_ hS_ hO_ hD
      have hS := hS_ (by rfl)
      clear hS hS_ hO_ hD
      refine s_gput (j := 2) (Z := #[.int .i64 0, .int .u64 0, .int .u64 0, .int .u64 0, .int .u64 0]) (V := [.int .i64 (x), .int .u64 (limb 0 A), .int .u64 (limb 1 A), .int .u64 (limb 2 A), .int .u64 (limb 3 A)]) [ρ 2, termV x A] (by kernel_rfl) (by kernel_rfl) (by kernel_rfl) (by kernel_rfl) ?_
      intro r_ b hr_ hb hB F
      have o0_ : r_ (.tmp 7) = ρ 2 := op_at hr_ 0 (by kernel_rfl) (by kernel_rfl)
      have o1_ : r_ (.tmp 25) = termV x A := op_at hr_ 1 (by kernel_rfl) (by kernel_rfl)
      clear hr_
      rw [hb] at o0_
      have Q := F.cell
      have q0 := Q 0 _ rfl
      have q1 := Q 1 _ rfl
      have q2 := Q 2 _ rfl
      have q3 := Q 3 _ rfl
      have q4 := Q 4 _ rfl
      have Qf := F.free
      have Ql := F.lt
      clear Q F
      simp only [putCells]
      go_simp; first | done | with_reducible rfl | rfl
    simp only [Act.put, planVG, List.setIfInBounds_toArray, List.set_cons_zero, List.set_cons_succ, List.getElem?_cons_zero, List.getElem?_cons_succ]
    refine ⟨?_, ?_⟩
    · as_aux_lemma =>
      intro y_ hS_ hO_ hD
      have hS := hS_ (by rfl)
      clear hS hS_ hO_ hD
      refine s_gput (j := 3) (Z := #[.int .i64 0, .int .u64 0, .int .u64 0, .int .u64 0, .int .u64 0]) (V := [.int .i64 (y), .int .u64 (limb 0 B), .int .u64 (limb 1 B), .int .u64 (limb 2 B), .int .u64 (limb 3 B)]) [ρ 3, termV y B] (by kernel_rfl) (by kernel_rfl) (by kernel_rfl) (by kernel_rfl) ?_
      intro r_ b hr_ hb hB F
      have o0_ : r_ (.tmp 8) = ρ 3 := op_at hr_ 0 (by kernel_rfl) (by kernel_rfl)
      have o1_ : r_ (.tmp 26) = termV y B := op_at hr_ 1 (by kernel_rfl) (by kernel_rfl)
      clear hr_
      rw [hb] at o0_
      have Q := F.cell
      have q0 := Q 0 _ rfl
      have q1 := Q 1 _ rfl
      have q2 := Q 2 _ rfl
      have q3 := Q 3 _ rfl
      have q4 := Q 4 _ rfl
      have Qf := F.free
      have Ql := F.lt
      clear Q F
      simp only [putCells]
      go_simp; first | done | with_reducible rfl | rfl
    simp only [Act.put, planVG, List.setIfInBounds_toArray, List.set_cons_zero, List.set_cons_succ, List.getElem?_cons_zero, List.getElem?_cons_succ]
    as_aux_lemma =>
      intro w2 hS hF hD_
      change wpList _ _ _ _ _ _
      replace hS := sg_no (by decide) hS
      obtain ⟨hk, hZ2, X1, X2⟩ := hS
      obtain ⟨v2_2, e_v2_2, hv2_2, Bv2_2⟩ : ∃ b, ρ 2 = .pointer (some ⟨b, 0, none⟩) ∧ w1.heap.size ≤ b ∧ Box w2 b #[.int .i64 (x), .int .u64 (limb 0 A), .int .u64 (limb 1 A), .int .u64 (limb 2 A), .int .u64 (limb 3 A)] := by
        obtain ⟨b, h1, h2, h3⟩ := hF 2 (by decide)
        exact ⟨b, h1, h2, h3.lt, h3.cell, h3.free⟩
      obtain ⟨v2_3, e_v2_3, hv2_3, Bv2_3⟩ : ∃ b, ρ 3 = .pointer (some ⟨b, 0, none⟩) ∧ w1.heap.size ≤ b ∧ Box w2 b #[.int .i64 (y), .int .u64 (limb 0 B), .int .u64 (limb 1 B), .int .u64 (limb 2 B), .int .u64 (limb 3 B)] := by
        obtain ⟨b, h1, h2, h3⟩ := hF 3 (by decide)
        exact ⟨b, h1, h2, h3.lt, h3.cell, h3.free⟩
      have nv2_2_v2_3 : ¬ v2_2 = v2_3 := fun h => hD_ 2 3 (by decide) (by decide) (by decide) (by rfl) (by rfl) (by rw [e_v2_2, e_v2_3, h])
      have nv2_3_v2_2 : ¬ v2_3 = v2_2 := fun h => nv2_2_v2_3 h.symm
      clear hF hD_
      simp only [e_v2_2]
      clear e_v2_2
      simp only [e_v2_3]
      clear e_v2_3
      clear ρ
      have hz_w2 := hk.size
      have X1l := X1.lt
      have X1f := X1.free
      have X1l1 : w.heap.size < w2.heap.size + 1 := by omega
      have X1l2 : w.heap.size < w2.heap.size + 1 + 1 := by omega
      have X1l3 : w.heap.size < w2.heap.size + 1 + 1 + 1 := by omega
      have X10 := X1.cell 0 _ rfl
      have X11 := X1.cell 1 _ rfl
      have X12 := X1.cell 2 _ rfl
      have X13 := X1.cell 3 _ rfl
      have X14 := X1.cell 4 _ rfl
      have X2l := X2.lt
      have X2f := X2.free
      have X2l1 : w.heap.size + 1 < w2.heap.size + 1 := by omega
      have X2l2 : w.heap.size + 1 < w2.heap.size + 1 + 1 := by omega
      have X2l3 : w.heap.size + 1 < w2.heap.size + 1 + 1 + 1 := by omega
      have X20 := X2.cell 0 _ rfl
      have X21 := X2.cell 1 _ rfl
      have X22 := X2.cell 2 _ rfl
      have X23 := X2.cell 3 _ rfl
      have X24 := X2.cell 4 _ rfl
      have Bv2_2l := Bv2_2.lt
      have Bv2_2f := Bv2_2.free
      have Bv2_2l1 : v2_2 < w2.heap.size + 1 := by omega
      have Bv2_2l2 : v2_2 < w2.heap.size + 1 + 1 := by omega
      have Bv2_2l3 : v2_2 < w2.heap.size + 1 + 1 + 1 := by omega
      have Bv2_20 := Bv2_2.cell 0 _ rfl
      have Bv2_21 := Bv2_2.cell 1 _ rfl
      have Bv2_22 := Bv2_2.cell 2 _ rfl
      have Bv2_23 := Bv2_2.cell 3 _ rfl
      have Bv2_24 := Bv2_2.cell 4 _ rfl
      have Bv2_3l := Bv2_3.lt
      have Bv2_3f := Bv2_3.free
      have Bv2_3l1 : v2_3 < w2.heap.size + 1 := by omega
      have Bv2_3l2 : v2_3 < w2.heap.size + 1 + 1 := by omega
      have Bv2_3l3 : v2_3 < w2.heap.size + 1 + 1 + 1 := by omega
      have Bv2_30 := Bv2_3.cell 0 _ rfl
      have Bv2_31 := Bv2_3.cell 1 _ rfl
      have Bv2_32 := Bv2_3.cell 2 _ rfl
      have Bv2_33 := Bv2_3.cell 3 _ rfl
      have Bv2_34 := Bv2_3.cell 4 _ rfl
      go_wp2
      refine wp_region_g 12 (fun W' => Kept w.heap.size w W' ∧ w2.heap.size ≤ W'.heap.size ∧ Box W' (w.heap.size) #[.int .i64 (x), .int .u64 (limb 0 A), .int .u64 (limb 1 A), .int .u64 (limb 2 A), .int .u64 (limb 3 A)] ∧ Box W' (w.heap.size + 1) #[.int .i64 (y), .int .u64 (limb 0 B), .int .u64 (limb 1 B), .int .u64 (limb 2 B), .int .u64 (limb 3 B)] ∧ Box W' (v2_2) #[.int .i64 (x), .int .u64 (limb 0 A), .int .u64 (limb 1 A), .int .u64 (limb 2 A), .int .u64 (limb 3 A)] ∧ Box W' (v2_3) #[.int .i64 (y), .int .u64 (limb 0 B), .int .u64 (limb 1 B), .int .u64 (limb 2 B), .int .u64 (limb 3 B)]) (fun W' => Kept w.heap.size w W' ∧ w2.heap.size ≤ W'.heap.size ∧ Box W' (w.heap.size) #[.int .i64 (x), .int .u64 (limb 0 A), .int .u64 (limb 1 A), .int .u64 (limb 2 A), .int .u64 (limb 3 A)] ∧ Box W' (w.heap.size + 1) #[.int .i64 (y), .int .u64 (limb 0 B), .int .u64 (limb 1 B), .int .u64 (limb 2 B), .int .u64 (limb 3 B)] ∧ Box W' (v2_2) #[.int .i64 (x + d), .int .u64 (limb 0 A), .int .u64 (limb 1 A), .int .u64 (limb 2 A), .int .u64 (limb 3 A)] ∧ Box W' (v2_3) #[.int .i64 (y), .int .u64 (limb 0 B), .int .u64 (limb 1 B), .int .u64 (limb 2 B), .int .u64 (limb 3 B)]) 11 (w2.heap.size) [.known (.pointer (some ⟨w.heap.size, 0, none⟩)), .known (.int .i64 (x)), .known (.int .i16 (d)), .known (.int .i64 (d)), .known (.int .i64 (x + d)), .known (.pointer (some ⟨w.heap.size + 1, 0, none⟩)), .known (.int .i64 (y)), .known (.int .i16 (d)), .known (.int .i64 (d)), .known (.int .i64 (y + d)), .known (.pointer (some ⟨v2_2, 0, none⟩)), .out (v2_2) [.int .i64 (x + d), .int .u64 (limb 0 A), .int .u64 (limb 1 A), .int .u64 (limb 2 A), .int .u64 (limb 3 A)]] (by kernel_rfl) (by kernel_rfl) (fun W W' h hb => ⟨h.1.step hb, Nat.le_trans (h.2.1) hb.size, Box.call hb (h.2.2.1), Box.call hb (h.2.2.2.1), Box.call hb (h.2.2.2.2.1), Box.call hb (h.2.2.2.2.2)⟩) (fun W W' h hb => ⟨h.1.step hb, Nat.le_trans (h.2.1) hb.size, Box.call hb (h.2.2.1), Box.call hb (h.2.2.2.1), Box.call hb (h.2.2.2.2.1), Box.call hb (h.2.2.2.2.2)⟩) (fun b V e => by
        obtain ⟨rfl, rfl⟩ : v2_2 = b ∧ [.int .i64 (x + d), .int .u64 (limb 0 A), .int .u64 (limb 1 A), .int .u64 (limb 2 A), .int .u64 (limb 3 A)] = V := by injection e with e; injection e with e1 e2; exact ⟨e1, e2⟩
        exact ⟨by omega, fun w' h => ⟨(by simp only [putCells]; exact (((((h.1).setCell (p := ⟨v2_2, 0, none⟩) (by simp only []; omega) _).setCell (p := ⟨v2_2, 1, none⟩) (by simp only []; omega) _).setCell (p := ⟨v2_2, 2, none⟩) (by simp only []; omega) _).setCell (p := ⟨v2_2, 3, none⟩) (by simp only []; omega) _).setCell (p := ⟨v2_2, 4, none⟩) (by simp only []; omega) _), (by rw [putCells_size]; exact h.2.1), (by simp only [putCells]; exact (((((h.2.2.1).other (by omega)).other (by omega)).other (by omega)).other (by omega)).other (by omega)), (by simp only [putCells]; exact (((((h.2.2.2.1).other (by omega)).other (by omega)).other (by omega)).other (by omega)).other (by omega)), (by simp only [putCells]; with_reducible apply Box.set54; with_reducible apply Box.set53; with_reducible apply Box.set52; with_reducible apply Box.set51; with_reducible apply Box.set50; exact h.2.2.2.2.1), (by simp only [putCells]; exact (((((h.2.2.2.2.2).other (by omega)).other (by omega)).other (by omega)).other (by omega)).other (by omega))⟩⟩) (.inl (by kernel_rfl)) (.inl (by kernel_rfl)) (fun _ h => h.2.1) (fun _ h => h.2.1) (⟨(by repeat (first | with_reducible exact hk | with_reducible exact Kept.refl _ | with_reducible refine Kept.alloc ?_ _ | with_reducible refine Kept.drew ?_ | with_reducible refine Kept.setCell ?_ (by simp only [World.size_alloc, World.size_setCell, World.size_drew]; omega) _)), (by (try simp only [World.size_alloc, World.size_setCell, World.size_drew]); omega), (by repeat (first | with_reducible assumption | with_reducible apply Box.set10 | with_reducible apply Box.set20 | with_reducible apply Box.set21 | with_reducible apply Box.set40 | with_reducible apply Box.set41 | with_reducible apply Box.set42 | with_reducible apply Box.set43 | with_reducible apply Box.set50 | with_reducible apply Box.set51 | with_reducible apply Box.set52 | with_reducible apply Box.set53 | with_reducible apply Box.set54 | with_reducible apply Box.set80 | with_reducible apply Box.set81 | with_reducible apply Box.set82 | with_reducible apply Box.set83 | with_reducible apply Box.set84 | with_reducible apply Box.set85 | with_reducible apply Box.set86 | with_reducible apply Box.set87 | with_reducible apply Box.drew | (with_reducible apply Box.newAt; (try simp only [World.size_alloc, World.size_setCell, World.size_drew]); done) | with_reducible apply Box.alloc | (with_reducible apply Box.other; case hne => ((try simp only [World.size_alloc, World.size_setCell, World.size_drew]); omega)))), (by repeat (first | with_reducible assumption | with_reducible apply Box.set10 | with_reducible apply Box.set20 | with_reducible apply Box.set21 | with_reducible apply Box.set40 | with_reducible apply Box.set41 | with_reducible apply Box.set42 | with_reducible apply Box.set43 | with_reducible apply Box.set50 | with_reducible apply Box.set51 | with_reducible apply Box.set52 | with_reducible apply Box.set53 | with_reducible apply Box.set54 | with_reducible apply Box.set80 | with_reducible apply Box.set81 | with_reducible apply Box.set82 | with_reducible apply Box.set83 | with_reducible apply Box.set84 | with_reducible apply Box.set85 | with_reducible apply Box.set86 | with_reducible apply Box.set87 | with_reducible apply Box.drew | (with_reducible apply Box.newAt; (try simp only [World.size_alloc, World.size_setCell, World.size_drew]); done) | with_reducible apply Box.alloc | (with_reducible apply Box.other; case hne => ((try simp only [World.size_alloc, World.size_setCell, World.size_drew]); omega)))), (by repeat (first | with_reducible assumption | with_reducible apply Box.set10 | with_reducible apply Box.set20 | with_reducible apply Box.set21 | with_reducible apply Box.set40 | with_reducible apply Box.set41 | with_reducible apply Box.set42 | with_reducible apply Box.set43 | with_reducible apply Box.set50 | with_reducible apply Box.set51 | with_reducible apply Box.set52 | with_reducible apply Box.set53 | with_reducible apply Box.set54 | with_reducible apply Box.set80 | with_reducible apply Box.set81 | with_reducible apply Box.set82 | with_reducible apply Box.set83 | with_reducible apply Box.set84 | with_reducible apply Box.set85 | with_reducible apply Box.set86 | with_reducible apply Box.set87 | with_reducible apply Box.drew | (with_reducible apply Box.newAt; (try simp only [World.size_alloc, World.size_setCell, World.size_drew]); done) | with_reducible apply Box.alloc | (with_reducible apply Box.other; case hne => ((try simp only [World.size_alloc, World.size_setCell, World.size_drew]); omega)))), (by repeat (first | with_reducible assumption | with_reducible apply Box.set10 | with_reducible apply Box.set20 | with_reducible apply Box.set21 | with_reducible apply Box.set40 | with_reducible apply Box.set41 | with_reducible apply Box.set42 | with_reducible apply Box.set43 | with_reducible apply Box.set50 | with_reducible apply Box.set51 | with_reducible apply Box.set52 | with_reducible apply Box.set53 | with_reducible apply Box.set54 | with_reducible apply Box.set80 | with_reducible apply Box.set81 | with_reducible apply Box.set82 | with_reducible apply Box.set83 | with_reducible apply Box.set84 | with_reducible apply Box.set85 | with_reducible apply Box.set86 | with_reducible apply Box.set87 | with_reducible apply Box.drew | (with_reducible apply Box.newAt; (try simp only [World.size_alloc, World.size_setCell, World.size_drew]); done) | with_reducible apply Box.alloc | (with_reducible apply Box.other; case hne => ((try simp only [World.size_alloc, World.size_setCell, World.size_drew]); omega))))⟩) ?_
      clear hk
      clear X1 X1l1 X1l2 X1l3 X1f X10 X11 X12 X13 X14
      clear X2 X2l1 X2l2 X2l3 X2f X20 X21 X22 X23 X24
      clear Bv2_2 Bv2_2l1 Bv2_2l2 Bv2_2l3 Bv2_2f Bv2_20 Bv2_21 Bv2_22 Bv2_23 Bv2_24
      clear Bv2_3 Bv2_3l1 Bv2_3l2 Bv2_3l3 Bv2_3f Bv2_30 Bv2_31 Bv2_32 Bv2_33 Bv2_34
      intro ρ
      simp only [List.take_succ_cons, List.take_zero, List.drop_succ_cons, List.drop_zero]
      refine ⟨?_, ?_⟩
      · as_aux_lemma =>
        intro y_ hS_ hO_ hD
        clear hS_ hO_ hD
        refine s_gen (V := .pointer (some ⟨w.heap.size, 0, none⟩)) [.pointer (some ⟨w.heap.size, 0, none⟩)] (by kernel_rfl) (by kernel_rfl) (by kernel_rfl) ?_
        intro r_ hr_
        have o0_ : r_ (.tmp 3) = .pointer (some ⟨w.heap.size, 0, none⟩) := op_at hr_ 0 (by kernel_rfl) (by kernel_rfl)
        clear hr_
        go_simp; first | done | with_reducible rfl | omega
      simp only [Act.put, planVG, List.setIfInBounds_toArray, List.set_cons_zero, List.set_cons_succ, List.getElem?_cons_zero, List.getElem?_cons_succ]
      refine ⟨?_, ?_⟩
      · as_aux_lemma =>
        intro y_ hS_ hO_ hD
        have Q := (hO_.elim (fun h => h.2.2.1) (fun h => h.2.2.1)).cell
        have q0 := Q 0 _ rfl
        have q1 := Q 1 _ rfl
        have q2 := Q 2 _ rfl
        have q3 := Q 3 _ rfl
        have q4 := Q 4 _ rfl
        clear Q hS_ hO_ hD
        refine s_gen (V := .int .i64 (x)) [.pointer (some ⟨w.heap.size, 0, none⟩)] (by kernel_rfl) (by kernel_rfl) (by kernel_rfl) ?_
        intro r_ hr_
        have o0_ : r_ (.tmp 27) = .pointer (some ⟨w.heap.size, 0, none⟩) := op_at hr_ 0 (by kernel_rfl) (by kernel_rfl)
        clear hr_
        go_simp; first | done | with_reducible rfl
      simp only [Act.put, planVG, List.setIfInBounds_toArray, List.set_cons_zero, List.set_cons_succ, List.getElem?_cons_zero, List.getElem?_cons_succ]
      refine ⟨?_, ?_⟩
      · as_aux_lemma =>
        intro y_ hS_ hO_ hD
        clear hS_ hO_ hD
        refine s_gen (V := .int .i16 (d)) [.int .i16 (d)] (by kernel_rfl) (by kernel_rfl) (by kernel_rfl) ?_
        intro r_ hr_
        have o0_ : r_ (.tmp 2) = .int .i16 (d) := op_at hr_ 0 (by kernel_rfl) (by kernel_rfl)
        clear hr_
        go_simp; first | done | with_reducible rfl | omega
      simp only [Act.put, planVG, List.setIfInBounds_toArray, List.set_cons_zero, List.set_cons_succ, List.getElem?_cons_zero, List.getElem?_cons_succ]
      refine ⟨?_, ?_⟩
      · as_aux_lemma =>
        intro y_ hS_ hO_ hD
        clear hS_ hO_ hD
        refine s_gen (V := .int .i64 (d)) [.int .i16 (d)] (by kernel_rfl) (by kernel_rfl) (by kernel_rfl) ?_
        intro r_ hr_
        have o0_ : r_ (.tmp 29) = .int .i16 (d) := op_at hr_ 0 (by kernel_rfl) (by kernel_rfl)
        clear hr_
        go_simp; first | done | with_reducible rfl | omega
      simp only [Act.put, planVG, List.setIfInBounds_toArray, List.set_cons_zero, List.set_cons_succ, List.getElem?_cons_zero, List.getElem?_cons_succ]
      refine ⟨?_, ?_⟩
      · as_aux_lemma =>
        intro y_ hS_ hO_ hD
        clear hS_ hO_ hD
        refine s_gen (V := .int .i64 (x + d)) [.int .i64 (x), .int .i64 (d)] (by kernel_rfl) (by kernel_rfl) (by kernel_rfl) ?_
        intro r_ hr_
        have o0_ : r_ (.tmp 28) = .int .i64 (x) := op_at hr_ 0 (by kernel_rfl) (by kernel_rfl)
        have o1_ : r_ (.tmp 30) = .int .i64 (d) := op_at hr_ 1 (by kernel_rfl) (by kernel_rfl)
        clear hr_
        go_simp; first | done | with_reducible rfl | omega
      simp only [Act.put, planVG, List.setIfInBounds_toArray, List.set_cons_zero, List.set_cons_succ, List.getElem?_cons_zero, List.getElem?_cons_succ]
      refine ⟨?_, ?_⟩
      · as_aux_lemma =>
        intro y_ hS_ hO_ hD
        clear hS_ hO_ hD
        refine s_gen (V := .pointer (some ⟨w.heap.size + 1, 0, none⟩)) [.pointer (some ⟨w.heap.size + 1, 0, none⟩)] (by kernel_rfl) (by kernel_rfl) (by kernel_rfl) ?_
        intro r_ hr_
        have o0_ : r_ (.tmp 4) = .pointer (some ⟨w.heap.size + 1, 0, none⟩) := op_at hr_ 0 (by kernel_rfl) (by kernel_rfl)
        clear hr_
        go_simp; first | done | with_reducible rfl | omega
      simp only [Act.put, planVG, List.setIfInBounds_toArray, List.set_cons_zero, List.set_cons_succ, List.getElem?_cons_zero, List.getElem?_cons_succ]
      refine ⟨?_, ?_⟩
      · as_aux_lemma =>
        intro y_ hS_ hO_ hD
        have Q := (hO_.elim (fun h => h.2.2.2.1) (fun h => h.2.2.2.1)).cell
        have q0 := Q 0 _ rfl
        have q1 := Q 1 _ rfl
        have q2 := Q 2 _ rfl
        have q3 := Q 3 _ rfl
        have q4 := Q 4 _ rfl
        clear Q hS_ hO_ hD
        refine s_gen (V := .int .i64 (y)) [.pointer (some ⟨w.heap.size + 1, 0, none⟩)] (by kernel_rfl) (by kernel_rfl) (by kernel_rfl) ?_
        intro r_ hr_
        have o0_ : r_ (.tmp 32) = .pointer (some ⟨w.heap.size + 1, 0, none⟩) := op_at hr_ 0 (by kernel_rfl) (by kernel_rfl)
        clear hr_
        go_simp; first | done | with_reducible rfl
      simp only [Act.put, planVG, List.setIfInBounds_toArray, List.set_cons_zero, List.set_cons_succ, List.getElem?_cons_zero, List.getElem?_cons_succ]
      refine ⟨?_, ?_⟩
      · as_aux_lemma =>
        intro y_ hS_ hO_ hD
        clear hS_ hO_ hD
        refine s_gen (V := .int .i16 (d)) [.int .i16 (d)] (by kernel_rfl) (by kernel_rfl) (by kernel_rfl) ?_
        intro r_ hr_
        have o0_ : r_ (.tmp 2) = .int .i16 (d) := op_at hr_ 0 (by kernel_rfl) (by kernel_rfl)
        clear hr_
        go_simp; first | done | with_reducible rfl | omega
      simp only [Act.put, planVG, List.setIfInBounds_toArray, List.set_cons_zero, List.set_cons_succ, List.getElem?_cons_zero, List.getElem?_cons_succ]
      refine ⟨?_, ?_⟩
      · as_aux_lemma =>
        intro y_ hS_ hO_ hD
        clear hS_ hO_ hD
        refine s_gen (V := .int .i64 (d)) [.int .i16 (d)] (by kernel_rfl) (by kernel_rfl) (by kernel_rfl) ?_
        intro r_ hr_
        have o0_ : r_ (.tmp 34) = .int .i16 (d) := op_at hr_ 0 (by kernel_rfl) (by kernel_rfl)
        clear hr_
        go_simp; first | done | with_reducible rfl | omega
      simp only [Act.put, planVG, List.setIfInBounds_toArray, List.set_cons_zero, List.set_cons_succ, List.getElem?_cons_zero, List.getElem?_cons_succ]
      refine ⟨?_, ?_⟩
      · as_aux_lemma =>
        intro y_ hS_ hO_ hD
        clear hS_ hO_ hD
        refine s_gen (V := .int .i64 (y + d)) [.int .i64 (y), .int .i64 (d)] (by kernel_rfl) (by kernel_rfl) (by kernel_rfl) ?_
        intro r_ hr_
        have o0_ : r_ (.tmp 33) = .int .i64 (y) := op_at hr_ 0 (by kernel_rfl) (by kernel_rfl)
        have o1_ : r_ (.tmp 35) = .int .i64 (d) := op_at hr_ 1 (by kernel_rfl) (by kernel_rfl)
        clear hr_
        go_simp; first | done | with_reducible rfl | omega
      simp only [Act.put, planVG, List.setIfInBounds_toArray, List.set_cons_zero, List.set_cons_succ, List.getElem?_cons_zero, List.getElem?_cons_succ]
      refine ⟨?_, ?_⟩
      · as_aux_lemma =>
        intro y_ hS_ hO_ hD
        clear hS_ hO_ hD
        refine s_gen (V := .pointer (some ⟨v2_2, 0, none⟩)) [.pointer (some ⟨v2_2, 0, none⟩)] (by kernel_rfl) (by kernel_rfl) (by kernel_rfl) ?_
        intro r_ hr_
        have o0_ : r_ (.tmp 7) = .pointer (some ⟨v2_2, 0, none⟩) := op_at hr_ 0 (by kernel_rfl) (by kernel_rfl)
        clear hr_
        go_simp; first | done | with_reducible rfl | omega
      simp only [Act.put, planVG, List.setIfInBounds_toArray, List.set_cons_zero, List.set_cons_succ, List.getElem?_cons_zero, List.getElem?_cons_succ]
      refine ⟨?_, ?_⟩
      · as_aux_lemma =>
        intro y_ hS_ hO_ hD
        have HB_ := (hS_ (by rfl)).2.2.2.2.1
        have Q := ((hS_ (by rfl)).2.2.2.2.1).cell
        have q0 := Q 0 _ rfl
        have q1 := Q 1 _ rfl
        have q2 := Q 2 _ rfl
        have q3 := Q 3 _ rfl
        have q4 := Q 4 _ rfl
        have Qf := ((hS_ (by rfl)).2.2.2.2.1).free
        have Ql := ((hS_ (by rfl)).2.2.2.2.1).lt
        clear Q hS_ hO_ hD
        refine s_gout (b := v2_2) (V := [.int .i64 (x + d), .int .u64 (limb 0 A), .int .u64 (limb 1 A), .int .u64 (limb 2 A), .int .u64 (limb 3 A)]) [.pointer (some ⟨v2_2, 0, none⟩), .int .i64 (x + d)] (by kernel_rfl) (by kernel_rfl) (by kernel_rfl) ?_
        intro r_ hr_
        have o0_ : r_ (.tmp 37) = .pointer (some ⟨v2_2, 0, none⟩) := op_at hr_ 0 (by kernel_rfl) (by kernel_rfl)
        have o1_ : r_ (.tmp 31) = .int .i64 (x + d) := op_at hr_ 1 (by kernel_rfl) (by kernel_rfl)
        clear hr_
        rw [HB_.put_head]
        clear HB_
        go_simp; first | done | with_reducible rfl | rfl
      simp only [Act.put, planVG, List.setIfInBounds_toArray, List.set_cons_zero, List.set_cons_succ, List.getElem?_cons_zero, List.getElem?_cons_succ]
      as_aux_lemma =>
        intro w3 hS hF hD_
        change wpList _ _ _ _ _ _
        replace hS := sg_yes (by decide) hS
        obtain ⟨hk, hZ3, X1, X2, Bv2_2, Bv2_3⟩ := hS
        clear hF hD_
        clear ρ
        have hz_w3 := hk.size
        have X1l := X1.lt
        have X1f := X1.free
        have X1l1 : w.heap.size < w3.heap.size + 1 := by omega
        have X1l2 : w.heap.size < w3.heap.size + 1 + 1 := by omega
        have X1l3 : w.heap.size < w3.heap.size + 1 + 1 + 1 := by omega
        have X10 := X1.cell 0 _ rfl
        have X11 := X1.cell 1 _ rfl
        have X12 := X1.cell 2 _ rfl
        have X13 := X1.cell 3 _ rfl
        have X14 := X1.cell 4 _ rfl
        have X2l := X2.lt
        have X2f := X2.free
        have X2l1 : w.heap.size + 1 < w3.heap.size + 1 := by omega
        have X2l2 : w.heap.size + 1 < w3.heap.size + 1 + 1 := by omega
        have X2l3 : w.heap.size + 1 < w3.heap.size + 1 + 1 + 1 := by omega
        have X20 := X2.cell 0 _ rfl
        have X21 := X2.cell 1 _ rfl
        have X22 := X2.cell 2 _ rfl
        have X23 := X2.cell 3 _ rfl
        have X24 := X2.cell 4 _ rfl
        have Bv2_2l := Bv2_2.lt
        have Bv2_2f := Bv2_2.free
        have Bv2_2l1 : v2_2 < w3.heap.size + 1 := by omega
        have Bv2_2l2 : v2_2 < w3.heap.size + 1 + 1 := by omega
        have Bv2_2l3 : v2_2 < w3.heap.size + 1 + 1 + 1 := by omega
        have Bv2_20 := Bv2_2.cell 0 _ rfl
        have Bv2_21 := Bv2_2.cell 1 _ rfl
        have Bv2_22 := Bv2_2.cell 2 _ rfl
        have Bv2_23 := Bv2_2.cell 3 _ rfl
        have Bv2_24 := Bv2_2.cell 4 _ rfl
        have Bv2_3l := Bv2_3.lt
        have Bv2_3f := Bv2_3.free
        have Bv2_3l1 : v2_3 < w3.heap.size + 1 := by omega
        have Bv2_3l2 : v2_3 < w3.heap.size + 1 + 1 := by omega
        have Bv2_3l3 : v2_3 < w3.heap.size + 1 + 1 + 1 := by omega
        have Bv2_30 := Bv2_3.cell 0 _ rfl
        have Bv2_31 := Bv2_3.cell 1 _ rfl
        have Bv2_32 := Bv2_3.cell 2 _ rfl
        have Bv2_33 := Bv2_3.cell 3 _ rfl
        have Bv2_34 := Bv2_3.cell 4 _ rfl
        go_wp2
        refine wp_region_g 10 (fun W' => Kept w.heap.size w W' ∧ w3.heap.size ≤ W'.heap.size ∧ Box W' (w.heap.size) #[.int .i64 (x), .int .u64 (limb 0 A), .int .u64 (limb 1 A), .int .u64 (limb 2 A), .int .u64 (limb 3 A)] ∧ Box W' (w.heap.size + 1) #[.int .i64 (y), .int .u64 (limb 0 B), .int .u64 (limb 1 B), .int .u64 (limb 2 B), .int .u64 (limb 3 B)] ∧ Box W' (v2_2) #[.int .i64 (x + d), .int .u64 (limb 0 A), .int .u64 (limb 1 A), .int .u64 (limb 2 A), .int .u64 (limb 3 A)] ∧ Box W' (v2_3) #[.int .i64 (y + d), .int .u64 (limb 0 B), .int .u64 (limb 1 B), .int .u64 (limb 2 B), .int .u64 (limb 3 B)]) (fun W' => Kept w.heap.size w W' ∧ w3.heap.size ≤ W'.heap.size ∧ Box W' (w.heap.size) #[.int .i64 (x), .int .u64 (limb 0 A), .int .u64 (limb 1 A), .int .u64 (limb 2 A), .int .u64 (limb 3 A)] ∧ Box W' (w.heap.size + 1) #[.int .i64 (y), .int .u64 (limb 0 B), .int .u64 (limb 1 B), .int .u64 (limb 2 B), .int .u64 (limb 3 B)] ∧ Box W' (v2_2) #[.int .i64 (x + d), .int .u64 (limb 0 A), .int .u64 (limb 1 A), .int .u64 (limb 2 A), .int .u64 (limb 3 A)] ∧ Box W' (v2_3) #[.int .i64 (y + d), .int .u64 (limb 0 B), .int .u64 (limb 1 B), .int .u64 (limb 2 B), .int .u64 (limb 3 B)]) 1000 (w3.heap.size) [.known (termV x A), .known (termV y B), .known (termV l S), .known (termV (x + d) A), .known (termV (y + d) B), .known (termV (l + d) S), .var #[.int .i64 0, .int .u64 0, .int .u64 0, .int .u64 0, .int .u64 0] 8 [.int .i64 (l), .int .u64 (limb 0 S), .int .u64 (limb 1 S), .int .u64 (limb 2 S), .int .u64 (limb 3 S)], .var #[.int .i64 0, .int .u64 0, .int .u64 0, .int .u64 0, .int .u64 0] 9 [.int .i64 (l + d), .int .u64 (limb 0 S), .int .u64 (limb 1 S), .int .u64 (limb 2 S), .int .u64 (limb 3 S)], .put 6, .put 7] (by kernel_rfl) (by kernel_rfl) (fun W W' h hb => ⟨h.1.step hb, Nat.le_trans (h.2.1) hb.size, Box.call hb (h.2.2.1), Box.call hb (h.2.2.2.1), Box.call hb (h.2.2.2.2.1), Box.call hb (h.2.2.2.2.2)⟩) (fun W W' h hb => ⟨h.1.step hb, Nat.le_trans (h.2.1) hb.size, Box.call hb (h.2.2.1), Box.call hb (h.2.2.2.1), Box.call hb (h.2.2.2.2.1), Box.call hb (h.2.2.2.2.2)⟩) (no_out (of_decide_eq_true (by kernel_rfl))) (.inr (fun W' b i v hb h => ⟨h.1.setCell (p := ⟨b, i, none⟩) (by simp only []; omega) v, (by rw [World.size_setCell]; exact h.2.1), (h.2.2.1).other (by omega), (h.2.2.2.1).other (by omega), (h.2.2.2.2.1).other (by omega), (h.2.2.2.2.2).other (by omega)⟩)) (.inr (fun W' b i v hb h => ⟨h.1.setCell (p := ⟨b, i, none⟩) (by simp only []; omega) v, (by rw [World.size_setCell]; exact h.2.1), (h.2.2.1).other (by omega), (h.2.2.2.1).other (by omega), (h.2.2.2.2.1).other (by omega), (h.2.2.2.2.2).other (by omega)⟩)) (fun _ h => h.2.1) (fun _ h => h.2.1) (⟨(by repeat (first | with_reducible exact hk | with_reducible exact Kept.refl _ | with_reducible refine Kept.alloc ?_ _ | with_reducible refine Kept.drew ?_ | with_reducible refine Kept.setCell ?_ (by simp only [World.size_alloc, World.size_setCell, World.size_drew]; omega) _)), (by (try simp only [World.size_alloc, World.size_setCell, World.size_drew]); omega), (by repeat (first | with_reducible assumption | with_reducible apply Box.set10 | with_reducible apply Box.set20 | with_reducible apply Box.set21 | with_reducible apply Box.set40 | with_reducible apply Box.set41 | with_reducible apply Box.set42 | with_reducible apply Box.set43 | with_reducible apply Box.set50 | with_reducible apply Box.set51 | with_reducible apply Box.set52 | with_reducible apply Box.set53 | with_reducible apply Box.set54 | with_reducible apply Box.set80 | with_reducible apply Box.set81 | with_reducible apply Box.set82 | with_reducible apply Box.set83 | with_reducible apply Box.set84 | with_reducible apply Box.set85 | with_reducible apply Box.set86 | with_reducible apply Box.set87 | with_reducible apply Box.drew | (with_reducible apply Box.newAt; (try simp only [World.size_alloc, World.size_setCell, World.size_drew]); done) | with_reducible apply Box.alloc | (with_reducible apply Box.other; case hne => ((try simp only [World.size_alloc, World.size_setCell, World.size_drew]); omega)))), (by repeat (first | with_reducible assumption | with_reducible apply Box.set10 | with_reducible apply Box.set20 | with_reducible apply Box.set21 | with_reducible apply Box.set40 | with_reducible apply Box.set41 | with_reducible apply Box.set42 | with_reducible apply Box.set43 | with_reducible apply Box.set50 | with_reducible apply Box.set51 | with_reducible apply Box.set52 | with_reducible apply Box.set53 | with_reducible apply Box.set54 | with_reducible apply Box.set80 | with_reducible apply Box.set81 | with_reducible apply Box.set82 | with_reducible apply Box.set83 | with_reducible apply Box.set84 | with_reducible apply Box.set85 | with_reducible apply Box.set86 | with_reducible apply Box.set87 | with_reducible apply Box.drew | (with_reducible apply Box.newAt; (try simp only [World.size_alloc, World.size_setCell, World.size_drew]); done) | with_reducible apply Box.alloc | (with_reducible apply Box.other; case hne => ((try simp only [World.size_alloc, World.size_setCell, World.size_drew]); omega)))), (by repeat (first | with_reducible assumption | with_reducible apply Box.set10 | with_reducible apply Box.set20 | with_reducible apply Box.set21 | with_reducible apply Box.set40 | with_reducible apply Box.set41 | with_reducible apply Box.set42 | with_reducible apply Box.set43 | with_reducible apply Box.set50 | with_reducible apply Box.set51 | with_reducible apply Box.set52 | with_reducible apply Box.set53 | with_reducible apply Box.set54 | with_reducible apply Box.set80 | with_reducible apply Box.set81 | with_reducible apply Box.set82 | with_reducible apply Box.set83 | with_reducible apply Box.set84 | with_reducible apply Box.set85 | with_reducible apply Box.set86 | with_reducible apply Box.set87 | with_reducible apply Box.drew | (with_reducible apply Box.newAt; (try simp only [World.size_alloc, World.size_setCell, World.size_drew]); done) | with_reducible apply Box.alloc | (with_reducible apply Box.other; case hne => ((try simp only [World.size_alloc, World.size_setCell, World.size_drew]); omega)))), (by repeat (first | with_reducible assumption | with_reducible apply Box.set10 | with_reducible apply Box.set20 | with_reducible apply Box.set21 | with_reducible apply Box.set40 | with_reducible apply Box.set41 | with_reducible apply Box.set42 | with_reducible apply Box.set43 | with_reducible apply Box.set50 | with_reducible apply Box.set51 | with_reducible apply Box.set52 | with_reducible apply Box.set53 | with_reducible apply Box.set54 | with_reducible apply Box.set80 | with_reducible apply Box.set81 | with_reducible apply Box.set82 | with_reducible apply Box.set83 | with_reducible apply Box.set84 | with_reducible apply Box.set85 | with_reducible apply Box.set86 | with_reducible apply Box.set87 | with_reducible apply Box.drew | (with_reducible apply Box.newAt; (try simp only [World.size_alloc, World.size_setCell, World.size_drew]); done) | with_reducible apply Box.alloc | (with_reducible apply Box.other; case hne => ((try simp only [World.size_alloc, World.size_setCell, World.size_drew]); omega))))⟩) ?_
        clear hk
        clear X1 X1l1 X1l2 X1l3 X1f X10 X11 X12 X13 X14
        clear X2 X2l1 X2l2 X2l3 X2f X20 X21 X22 X23 X24
        clear Bv2_2 Bv2_2l1 Bv2_2l2 Bv2_2l3 Bv2_2f Bv2_20 Bv2_21 Bv2_22 Bv2_23 Bv2_24
        clear Bv2_3 Bv2_3l1 Bv2_3l2 Bv2_3l3 Bv2_3f Bv2_30 Bv2_31 Bv2_32 Bv2_33 Bv2_34
        intro ρ
        simp only [List.take_succ_cons, List.take_zero, List.drop_succ_cons, List.drop_zero]
        refine ⟨?_, ?_⟩
        · as_aux_lemma =>
          intro y_ hS_ hO_ hD
          have Q := ((hS_ (by rfl)).2.2.1).cell
          have q0 := Q 0 _ rfl
          have q1 := Q 1 _ rfl
          have q2 := Q 2 _ rfl
          have q3 := Q 3 _ rfl
          have q4 := Q 4 _ rfl
          clear Q hS_ hO_ hD
          refine s_gen (V := termV x A) [.pointer (some ⟨w.heap.size, 0, none⟩)] (by kernel_rfl) (by kernel_rfl) (by kernel_rfl) ?_
          intro r_ hr_
          have o0_ : r_ (.tmp 3) = .pointer (some ⟨w.heap.size, 0, none⟩) := op_at hr_ 0 (by kernel_rfl) (by kernel_rfl)
          clear hr_
          go_simp; first | done | with_reducible rfl
        simp only [Act.put, planVG, List.setIfInBounds_toArray, List.set_cons_zero, List.set_cons_succ, List.getElem?_cons_zero, List.getElem?_cons_succ]
        refine ⟨?_, ?_⟩
        · as_aux_lemma =>
          intro y_ hS_ hO_ hD
          have Q := ((hS_ (by rfl)).2.2.2.1).cell
          have q0 := Q 0 _ rfl
          have q1 := Q 1 _ rfl
          have q2 := Q 2 _ rfl
          have q3 := Q 3 _ rfl
          have q4 := Q 4 _ rfl
          clear Q hS_ hO_ hD
          refine s_gen (V := termV y B) [.pointer (some ⟨w.heap.size + 1, 0, none⟩)] (by kernel_rfl) (by kernel_rfl) (by kernel_rfl) ?_
          intro r_ hr_
          have o0_ : r_ (.tmp 4) = .pointer (some ⟨w.heap.size + 1, 0, none⟩) := op_at hr_ 0 (by kernel_rfl) (by kernel_rfl)
          clear hr_
          go_simp; first | done | with_reducible rfl
        simp only [Act.put, planVG, List.setIfInBounds_toArray, List.set_cons_zero, List.set_cons_succ, List.getElem?_cons_zero, List.getElem?_cons_succ]
        refine ⟨?_, ?_⟩
        · as_aux_lemma =>
          intro y_ hS_ hO_ hD
          try clear hS
          clear hS_ hO_ hD
          refine s_gcall (V := termV l S) [.func (.func 47) #[] #[], termV x A, termV y B] ?_ ?_ (by kernel_rfl) (by kernel_rfl) (by kernel_rfl) ?_ ?_
          rotate_left 2
          · intro r_ hr_
            have o0_ : r_ (.func 47) = .func (.func 47) #[] #[] := op_at hr_ 0 (by kernel_rfl) (by kernel_rfl)
            have o1_ : r_ (.tmp 39) = termV x A := op_at hr_ 1 (by kernel_rfl) (by kernel_rfl)
            have o2_ : r_ (.tmp 40) = termV y B := op_at hr_ 2 (by kernel_rfl) (by kernel_rfl)
            clear hr_
            go_simp; first | done | with_reducible rfl | (constructor <;> with_reducible rfl)
          · refine H1.out _
        simp only [Act.put, planVG, List.setIfInBounds_toArray, List.set_cons_zero, List.set_cons_succ, List.getElem?_cons_zero, List.getElem?_cons_succ]
        refine ⟨?_, ?_⟩
        · as_aux_lemma =>
          intro y_ hS_ hO_ hD
          have Q := ((hS_ (by rfl)).2.2.2.2.1).cell
          have q0 := Q 0 _ rfl
          have q1 := Q 1 _ rfl
          have q2 := Q 2 _ rfl
          have q3 := Q 3 _ rfl
          have q4 := Q 4 _ rfl
          clear Q hS_ hO_ hD
          refine s_gen (V := termV (x + d) A) [.pointer (some ⟨v2_2, 0, none⟩)] (by kernel_rfl) (by kernel_rfl) (by kernel_rfl) ?_
          intro r_ hr_
          have o0_ : r_ (.tmp 7) = .pointer (some ⟨v2_2, 0, none⟩) := op_at hr_ 0 (by kernel_rfl) (by kernel_rfl)
          clear hr_
          go_simp; first | done | with_reducible rfl
        simp only [Act.put, planVG, List.setIfInBounds_toArray, List.set_cons_zero, List.set_cons_succ, List.getElem?_cons_zero, List.getElem?_cons_succ]
        refine ⟨?_, ?_⟩
        · as_aux_lemma =>
          intro y_ hS_ hO_ hD
          have Q := ((hS_ (by rfl)).2.2.2.2.2).cell
          have q0 := Q 0 _ rfl
          have q1 := Q 1 _ rfl
          have q2 := Q 2 _ rfl
          have q3 := Q 3 _ rfl
          have q4 := Q 4 _ rfl
          clear Q hS_ hO_ hD
          refine s_gen (V := termV (y + d) B) [.pointer (some ⟨v2_3, 0, none⟩)] (by kernel_rfl) (by kernel_rfl) (by kernel_rfl) ?_
          intro r_ hr_
          have o0_ : r_ (.tmp 8) = .pointer (some ⟨v2_3, 0, none⟩) := op_at hr_ 0 (by kernel_rfl) (by kernel_rfl)
          clear hr_
          go_simp; first | done | with_reducible rfl
        simp only [Act.put, planVG, List.setIfInBounds_toArray, List.set_cons_zero, List.set_cons_succ, List.getElem?_cons_zero, List.getElem?_cons_succ]
        refine ⟨?_, ?_⟩
        · as_aux_lemma =>
          intro y_ hS_ hO_ hD
          try clear hS
          clear hS_ hO_ hD
          refine s_gcall (V := termV (l + d) S) [.func (.func 47) #[] #[], termV (x + d) A, termV (y + d) B] ?_ ?_ (by kernel_rfl) (by kernel_rfl) (by kernel_rfl) ?_ ?_
          rotate_left 2
          · intro r_ hr_
            have o0_ : r_ (.func 47) = .func (.func 47) #[] #[] := op_at hr_ 0 (by kernel_rfl) (by kernel_rfl)
            have o1_ : r_ (.tmp 42) = termV (x + d) A := op_at hr_ 1 (by kernel_rfl) (by kernel_rfl)
            have o2_ : r_ (.tmp 43) = termV (y + d) B := op_at hr_ 2 (by kernel_rfl) (by kernel_rfl)
            clear hr_
            go_simp; first | done | with_reducible rfl | (constructor <;> with_reducible rfl)
          · refine H2.out _
        simp only [Act.put, planVG, List.setIfInBounds_toArray, List.set_cons_zero, List.set_cons_succ, List.getElem?_cons_zero, List.getElem?_cons_succ]
        refine ⟨?_, ?_⟩
        · as_aux_lemma =>
          intro y_ hS_ hO_ hD
          clear hS_ hO_ hD
          refine s_alloc (by rfl) (by rfl) ?_
          simp only [allocTy]
          go_simp; first | done | with_reducible rfl | rfl
        simp only [Act.put, planVG, List.setIfInBounds_toArray, List.set_cons_zero, List.set_cons_succ, List.getElem?_cons_zero, List.getElem?_cons_succ]
        refine ⟨?_, ?_⟩
        · as_aux_lemma =>
          intro y_ hS_ hO_ hD
          clear hS_ hO_ hD
          refine s_alloc (by rfl) (by rfl) ?_
          simp only [allocTy]
          go_simp; first | done | with_reducible rfl | rfl
        simp only [Act.put, planVG, List.setIfInBounds_toArray, List.set_cons_zero, List.set_cons_succ, List.getElem?_cons_zero, List.getElem?_cons_succ]
        refine ⟨?_, ?_⟩
        · as_aux_lemma =>
          intro y_ hS_ hO_ hD
          have hS := hS_ (by rfl)
          clear hS hS_ hO_ hD
          refine s_gput (j := 6) (Z := #[.int .i64 0, .int .u64 0, .int .u64 0, .int .u64 0, .int .u64 0]) (V := [.int .i64 (l), .int .u64 (limb 0 S), .int .u64 (limb 1 S), .int .u64 (limb 2 S), .int .u64 (limb 3 S)]) [ρ 6, termV l S] (by kernel_rfl) (by kernel_rfl) (by kernel_rfl) (by kernel_rfl) ?_
          intro r_ b hr_ hb hB F
          have o0_ : r_ (.tmp 9) = ρ 6 := op_at hr_ 0 (by kernel_rfl) (by kernel_rfl)
          have o1_ : r_ (.tmp 41) = termV l S := op_at hr_ 1 (by kernel_rfl) (by kernel_rfl)
          clear hr_
          rw [hb] at o0_
          have Q := F.cell
          have q0 := Q 0 _ rfl
          have q1 := Q 1 _ rfl
          have q2 := Q 2 _ rfl
          have q3 := Q 3 _ rfl
          have q4 := Q 4 _ rfl
          have Qf := F.free
          have Ql := F.lt
          clear Q F
          simp only [putCells]
          go_simp; first | done | with_reducible rfl | rfl
        simp only [Act.put, planVG, List.setIfInBounds_toArray, List.set_cons_zero, List.set_cons_succ, List.getElem?_cons_zero, List.getElem?_cons_succ]
        refine ⟨?_, ?_⟩
        · as_aux_lemma =>
          intro y_ hS_ hO_ hD
          have hS := hS_ (by rfl)
          clear hS hS_ hO_ hD
          refine s_gput (j := 7) (Z := #[.int .i64 0, .int .u64 0, .int .u64 0, .int .u64 0, .int .u64 0]) (V := [.int .i64 (l + d), .int .u64 (limb 0 S), .int .u64 (limb 1 S), .int .u64 (limb 2 S), .int .u64 (limb 3 S)]) [ρ 7, termV (l + d) S] (by kernel_rfl) (by kernel_rfl) (by kernel_rfl) (by kernel_rfl) ?_
          intro r_ b hr_ hb hB F
          have o0_ : r_ (.tmp 10) = ρ 7 := op_at hr_ 0 (by kernel_rfl) (by kernel_rfl)
          have o1_ : r_ (.tmp 44) = termV (l + d) S := op_at hr_ 1 (by kernel_rfl) (by kernel_rfl)
          clear hr_
          rw [hb] at o0_
          have Q := F.cell
          have q0 := Q 0 _ rfl
          have q1 := Q 1 _ rfl
          have q2 := Q 2 _ rfl
          have q3 := Q 3 _ rfl
          have q4 := Q 4 _ rfl
          have Qf := F.free
          have Ql := F.lt
          clear Q F
          simp only [putCells]
          go_simp; first | done | with_reducible rfl | rfl
        simp only [Act.put, planVG, List.setIfInBounds_toArray, List.set_cons_zero, List.set_cons_succ, List.getElem?_cons_zero, List.getElem?_cons_succ]
        as_aux_lemma =>
          intro w4 hS hF hD_
          change wpList _ _ _ _ _ _
          replace hS := sg_no (by decide) hS
          obtain ⟨hk, hZ4, X1, X2, Bv2_2, Bv2_3⟩ := hS
          obtain ⟨v4_6, e_v4_6, hv4_6, Bv4_6⟩ : ∃ b, ρ 6 = .pointer (some ⟨b, 0, none⟩) ∧ w3.heap.size ≤ b ∧ Box w4 b #[.int .i64 (l), .int .u64 (limb 0 S), .int .u64 (limb 1 S), .int .u64 (limb 2 S), .int .u64 (limb 3 S)] := by
            obtain ⟨b, h1, h2, h3⟩ := hF 6 (by decide)
            exact ⟨b, h1, h2, h3.lt, h3.cell, h3.free⟩
          obtain ⟨v4_7, e_v4_7, hv4_7, Bv4_7⟩ : ∃ b, ρ 7 = .pointer (some ⟨b, 0, none⟩) ∧ w3.heap.size ≤ b ∧ Box w4 b #[.int .i64 (l + d), .int .u64 (limb 0 S), .int .u64 (limb 1 S), .int .u64 (limb 2 S), .int .u64 (limb 3 S)] := by
            obtain ⟨b, h1, h2, h3⟩ := hF 7 (by decide)
            exact ⟨b, h1, h2, h3.lt, h3.cell, h3.free⟩
          have nv4_6_v4_7 : ¬ v4_6 = v4_7 := fun h => hD_ 6 7 (by decide) (by decide) (by decide) (by rfl) (by rfl) (by rw [e_v4_6, e_v4_7, h])
          have nv4_7_v4_6 : ¬ v4_7 = v4_6 := fun h => nv4_6_v4_7 h.symm
          clear hF hD_
          simp only [e_v4_6]
          clear e_v4_6
          simp only [e_v4_7]
          clear e_v4_7
          clear ρ
          have hz_w4 := hk.size
          have X1l := X1.lt
          have X1f := X1.free
          have X1l1 : w.heap.size < w4.heap.size + 1 := by omega
          have X1l2 : w.heap.size < w4.heap.size + 1 + 1 := by omega
          have X1l3 : w.heap.size < w4.heap.size + 1 + 1 + 1 := by omega
          have X10 := X1.cell 0 _ rfl
          have X11 := X1.cell 1 _ rfl
          have X12 := X1.cell 2 _ rfl
          have X13 := X1.cell 3 _ rfl
          have X14 := X1.cell 4 _ rfl
          have X2l := X2.lt
          have X2f := X2.free
          have X2l1 : w.heap.size + 1 < w4.heap.size + 1 := by omega
          have X2l2 : w.heap.size + 1 < w4.heap.size + 1 + 1 := by omega
          have X2l3 : w.heap.size + 1 < w4.heap.size + 1 + 1 + 1 := by omega
          have X20 := X2.cell 0 _ rfl
          have X21 := X2.cell 1 _ rfl
          have X22 := X2.cell 2 _ rfl
          have X23 := X2.cell 3 _ rfl
          have X24 := X2.cell 4 _ rfl
          have Bv2_2l := Bv2_2.lt
          have Bv2_2f := Bv2_2.free
          have Bv2_2l1 : v2_2 < w4.heap.size + 1 := by omega
          have Bv2_2l2 : v2_2 < w4.heap.size + 1 + 1 := by omega
          have Bv2_2l3 : v2_2 < w4.heap.size + 1 + 1 + 1 := by omega
          have Bv2_20 := Bv2_2.cell 0 _ rfl
          have Bv2_21 := Bv2_2.cell 1 _ rfl
          have Bv2_22 := Bv2_2.cell 2 _ rfl
          have Bv2_23 := Bv2_2.cell 3 _ rfl
          have Bv2_24 := Bv2_2.cell 4 _ rfl
          have Bv2_3l := Bv2_3.lt
          have Bv2_3f := Bv2_3.free
          have Bv2_3l1 : v2_3 < w4.heap.size + 1 := by omega
          have Bv2_3l2 : v2_3 < w4.heap.size + 1 + 1 := by omega
          have Bv2_3l3 : v2_3 < w4.heap.size + 1 + 1 + 1 := by omega
          have Bv2_30 := Bv2_3.cell 0 _ rfl
          have Bv2_31 := Bv2_3.cell 1 _ rfl
          have Bv2_32 := Bv2_3.cell 2 _ rfl
          have Bv2_33 := Bv2_3.cell 3 _ rfl
          have Bv2_34 := Bv2_3.cell 4 _ rfl
          have Bv4_6l := Bv4_6.lt
          have Bv4_6f := Bv4_6.free
          have Bv4_6l1 : v4_6 < w4.heap.size + 1 := by omega
          have Bv4_6l2 : v4_6 < w4.heap.size + 1 + 1 := by omega
          have Bv4_6l3 : v4_6 < w4.heap.size + 1 + 1 + 1 := by omega
          have Bv4_60 := Bv4_6.cell 0 _ rfl
          have Bv4_61 := Bv4_6.cell 1 _ rfl
          have Bv4_62 := Bv4_6.cell 2 _ rfl
          have Bv4_63 := Bv4_6.cell 3 _ rfl
          have Bv4_64 := Bv4_6.cell 4 _ rfl
          have Bv4_7l := Bv4_7.lt
          have Bv4_7f := Bv4_7.free
          have Bv4_7l1 : v4_7 < w4.heap.size + 1 := by omega
          have Bv4_7l2 : v4_7 < w4.heap.size + 1 + 1 := by omega
          have Bv4_7l3 : v4_7 < w4.heap.size + 1 + 1 + 1 := by omega
          have Bv4_70 := Bv4_7.cell 0 _ rfl
          have Bv4_71 := Bv4_7.cell 1 _ rfl
          have Bv4_72 := Bv4_7.cell 2 _ rfl
          have Bv4_73 := Bv4_7.cell 3 _ rfl
          have Bv4_74 := Bv4_7.cell 4 _ rfl
          go_wp2_with fail
          (with_reducible refine (H3.out _).mono ?_)
          rintro e w5 ⟨rfl, hb⟩
          have X1' : Box w5 (w.heap.size) #[.int .i64 (x), .int .u64 (limb 0 A), .int .u64 (limb 1 A), .int .u64 (limb 2 A), .int .u64 (limb 3 A)] := Box.call hb (by repeat (first | with_reducible assumption | with_reducible apply Box.set10 | with_reducible apply Box.set20 | with_reducible apply Box.set21 | with_reducible apply Box.set40 | with_reducible apply Box.set41 | with_reducible apply Box.set42 | with_reducible apply Box.set43 | with_reducible apply Box.set50 | with_reducible apply Box.set51 | with_reducible apply Box.set52 | with_reducible apply Box.set53 | with_reducible apply Box.set54 | with_reducible apply Box.set80 | with_reducible apply Box.set81 | with_reducible apply Box.set82 | with_reducible apply Box.set83 | with_reducible apply Box.set84 | with_reducible apply Box.set85 | with_reducible apply Box.set86 | with_reducible apply Box.set87 | with_reducible apply Box.drew | (with_reducible apply Box.newAt; (try simp only [World.size_alloc, World.size_setCell, World.size_drew]); done) | with_reducible apply Box.alloc | (with_reducible apply Box.other; case hne => ((try simp only [World.size_alloc, World.size_setCell, World.size_drew]); omega))))
          have X2' : Box w5 (w.heap.size + 1) #[.int .i64 (y), .int .u64 (limb 0 B), .int .u64 (limb 1 B), .int .u64 (limb 2 B), .int .u64 (limb 3 B)] := Box.call hb (by repeat (first | with_reducible assumption | with_reducible apply Box.set10 | with_reducible apply Box.set20 | with_reducible apply Box.set21 | with_reducible apply Box.set40 | with_reducible apply Box.set41 | with_reducible apply Box.set42 | with_reducible apply Box.set43 | with_reducible apply Box.set50 | with_reducible apply Box.set51 | with_reducible apply Box.set52 | with_reducible apply Box.set53 | with_reducible apply Box.set54 | with_reducible apply Box.set80 | with_reducible apply Box.set81 | with_reducible apply Box.set82 | with_reducible apply Box.set83 | with_reducible apply Box.set84 | with_reducible apply Box.set85 | with_reducible apply Box.set86 | with_reducible apply Box.set87 | with_reducible apply Box.drew | (with_reducible apply Box.newAt; (try simp only [World.size_alloc, World.size_setCell, World.size_drew]); done) | with_reducible apply Box.alloc | (with_reducible apply Box.other; case hne => ((try simp only [World.size_alloc, World.size_setCell, World.size_drew]); omega))))
          have Bv2_2' : Box w5 (v2_2) #[.int .i64 (x + d), .int .u64 (limb 0 A), .int .u64 (limb 1 A), .int .u64 (limb 2 A), .int .u64 (limb 3 A)] := Box.call hb (by repeat (first | with_reducible assumption | with_reducible apply Box.set10 | with_reducible apply Box.set20 | with_reducible apply Box.set21 | with_reducible apply Box.set40 | with_reducible apply Box.set41 | with_reducible apply Box.set42 | with_reducible apply Box.set43 | with_reducible apply Box.set50 | with_reducible apply Box.set51 | with_reducible apply Box.set52 | with_reducible apply Box.set53 | with_reducible apply Box.set54 | with_reducible apply Box.set80 | with_reducible apply Box.set81 | with_reducible apply Box.set82 | with_reducible apply Box.set83 | with_reducible apply Box.set84 | with_reducible apply Box.set85 | with_reducible apply Box.set86 | with_reducible apply Box.set87 | with_reducible apply Box.drew | (with_reducible apply Box.newAt; (try simp only [World.size_alloc, World.size_setCell, World.size_drew]); done) | with_reducible apply Box.alloc | (with_reducible apply Box.other; case hne => ((try simp only [World.size_alloc, World.size_setCell, World.size_drew]); omega))))
          have Bv2_3' : Box w5 (v2_3) #[.int .i64 (y + d), .int .u64 (limb 0 B), .int .u64 (limb 1 B), .int .u64 (limb 2 B), .int .u64 (limb 3 B)] := Box.call hb (by repeat (first | with_reducible assumption | with_reducible apply Box.set10 | with_reducible apply Box.set20 | with_reducible apply Box.set21 | with_reducible apply Box.set40 | with_reducible apply Box.set41 | with_reducible apply Box.set42 | with_reducible apply Box.set43 | with_reducible apply Box.set50 | with_reducible apply Box.set51 | with_reducible apply Box.set52 | with_reducible apply Box.set53 | with_reducible apply Box.set54 | with_reducible apply Box.set80 | with_reducible apply Box.set81 | with_reducible apply Box.set82 | with_reducible apply Box.set83 | with_reducible apply Box.set84 | with_reducible apply Box.set85 | with_reducible apply Box.set86 | with_reducible apply Box.set87 | with_reducible apply Box.drew | (with_reducible apply Box.newAt; (try simp only [World.size_alloc, World.size_setCell, World.size_drew]); done) | with_reducible apply Box.alloc | (with_reducible apply Box.other; case hne => ((try simp only [World.size_alloc, World.size_setCell, World.size_drew]); omega))))
          have Bv4_6' : Box w5 (v4_6) #[.int .i64 (l), .int .u64 (limb 0 S), .int .u64 (limb 1 S), .int .u64 (limb 2 S), .int .u64 (limb 3 S)] := Box.call hb (by repeat (first | with_reducible assumption | with_reducible apply Box.set10 | with_reducible apply Box.set20 | with_reducible apply Box.set21 | with_reducible apply Box.set40 | with_reducible apply Box.set41 | with_reducible apply Box.set42 | with_reducible apply Box.set43 | with_reducible apply Box.set50 | with_reducible apply Box.set51 | with_reducible apply Box.set52 | with_reducible apply Box.set53 | with_reducible apply Box.set54 | with_reducible apply Box.set80 | with_reducible apply Box.set81 | with_reducible apply Box.set82 | with_reducible apply Box.set83 | with_reducible apply Box.set84 | with_reducible apply Box.set85 | with_reducible apply Box.set86 | with_reducible apply Box.set87 | with_reducible apply Box.drew | (with_reducible apply Box.newAt; (try simp only [World.size_alloc, World.size_setCell, World.size_drew]); done) | with_reducible apply Box.alloc | (with_reducible apply Box.other; case hne => ((try simp only [World.size_alloc, World.size_setCell, World.size_drew]); omega))))
          have Bv4_7' : Box w5 (v4_7) #[.int .i64 (l + d), .int .u64 (limb 0 S), .int .u64 (limb 1 S), .int .u64 (limb 2 S), .int .u64 (limb 3 S)] := Box.call hb (by repeat (first | with_reducible assumption | with_reducible apply Box.set10 | with_reducible apply Box.set20 | with_reducible apply Box.set21 | with_reducible apply Box.set40 | with_reducible apply Box.set41 | with_reducible apply Box.set42 | with_reducible apply Box.set43 | with_reducible apply Box.set50 | with_reducible apply Box.set51 | with_reducible apply Box.set52 | with_reducible apply Box.set53 | with_reducible apply Box.set54 | with_reducible apply Box.set80 | with_reducible apply Box.set81 | with_reducible apply Box.set82 | with_reducible apply Box.set83 | with_reducible apply Box.set84 | with_reducible apply Box.set85 | with_reducible apply Box.set86 | with_reducible apply Box.set87 | with_reducible apply Box.drew | (with_reducible apply Box.newAt; (try simp only [World.size_alloc, World.size_setCell, World.size_drew]); done) | with_reducible apply Box.alloc | (with_reducible apply Box.other; case hne => ((try simp only [World.size_alloc, World.size_setCell, World.size_drew]); omega))))
          have hk' : Kept w.heap.size w w5 := Kept.step (by repeat (first | with_reducible exact hk | with_reducible exact Kept.refl _ | with_reducible refine Kept.alloc ?_ _ | with_reducible refine Kept.drew ?_ | with_reducible refine Kept.setCell ?_ (by simp only [World.size_alloc, World.size_setCell, World.size_drew]; omega) _)) hb
          clear hk hb
          clear X1 X1l1 X1l2 X1l3 X1f X10 X11 X12 X13 X14
          clear X2 X2l1 X2l2 X2l3 X2f X20 X21 X22 X23 X24
          clear Bv2_2 Bv2_2l1 Bv2_2l2 Bv2_2l3 Bv2_2f Bv2_20 Bv2_21 Bv2_22 Bv2_23 Bv2_24
          clear Bv2_3 Bv2_3l1 Bv2_3l2 Bv2_3l3 Bv2_3f Bv2_30 Bv2_31 Bv2_32 Bv2_33 Bv2_34
          clear Bv4_6 Bv4_6l1 Bv4_6l2 Bv4_6l3 Bv4_6f Bv4_60 Bv4_61 Bv4_62 Bv4_63 Bv4_64
          clear Bv4_7 Bv4_7l1 Bv4_7l2 Bv4_7l3 Bv4_7f Bv4_70 Bv4_71 Bv4_72 Bv4_73 Bv4_74
          have X1 := X1'
          clear X1'
          have X2 := X2'
          clear X2'
          have Bv2_2 := Bv2_2'
          clear Bv2_2'
          have Bv2_3 := Bv2_3'
          clear Bv2_3'
          have Bv4_6 := Bv4_6'
          clear Bv4_6'
          have Bv4_7 := Bv4_7'
          clear Bv4_7'
          have hk := hk'
          clear hk'
          have hz_w5 := hk.size
          have X1l := X1.lt
          have X1f := X1.free
          have X1l1 : w.heap.size < w5.heap.size + 1 := by omega
          have X1l2 : w.heap.size < w5.heap.size + 1 + 1 := by omega
          have X1l3 : w.heap.size < w5.heap.size + 1 + 1 + 1 := by omega
          have X10 := X1.cell 0 _ rfl
          have X11 := X1.cell 1 _ rfl
          have X12 := X1.cell 2 _ rfl
          have X13 := X1.cell 3 _ rfl
          have X14 := X1.cell 4 _ rfl
          have X2l := X2.lt
          have X2f := X2.free
          have X2l1 : w.heap.size + 1 < w5.heap.size + 1 := by omega
          have X2l2 : w.heap.size + 1 < w5.heap.size + 1 + 1 := by omega
          have X2l3 : w.heap.size + 1 < w5.heap.size + 1 + 1 + 1 := by omega
          have X20 := X2.cell 0 _ rfl
          have X21 := X2.cell 1 _ rfl
          have X22 := X2.cell 2 _ rfl
          have X23 := X2.cell 3 _ rfl
          have X24 := X2.cell 4 _ rfl
          have Bv2_2l := Bv2_2.lt
          have Bv2_2f := Bv2_2.free
          have Bv2_2l1 : v2_2 < w5.heap.size + 1 := by omega
          have Bv2_2l2 : v2_2 < w5.heap.size + 1 + 1 := by omega
          have Bv2_2l3 : v2_2 < w5.heap.size + 1 + 1 + 1 := by omega
          have Bv2_20 := Bv2_2.cell 0 _ rfl
          have Bv2_21 := Bv2_2.cell 1 _ rfl
          have Bv2_22 := Bv2_2.cell 2 _ rfl
          have Bv2_23 := Bv2_2.cell 3 _ rfl
          have Bv2_24 := Bv2_2.cell 4 _ rfl
          have Bv2_3l := Bv2_3.lt
          have Bv2_3f := Bv2_3.free
          have Bv2_3l1 : v2_3 < w5.heap.size + 1 := by omega
          have Bv2_3l2 : v2_3 < w5.heap.size + 1 + 1 := by omega
          have Bv2_3l3 : v2_3 < w5.heap.size + 1 + 1 + 1 := by omega
          have Bv2_30 := Bv2_3.cell 0 _ rfl
          have Bv2_31 := Bv2_3.cell 1 _ rfl
          have Bv2_32 := Bv2_3.cell 2 _ rfl
          have Bv2_33 := Bv2_3.cell 3 _ rfl
          have Bv2_34 := Bv2_3.cell 4 _ rfl
          have Bv4_6l := Bv4_6.lt
          have Bv4_6f := Bv4_6.free
          have Bv4_6l1 : v4_6 < w5.heap.size + 1 := by omega
          have Bv4_6l2 : v4_6 < w5.heap.size + 1 + 1 := by omega
          have Bv4_6l3 : v4_6 < w5.heap.size + 1 + 1 + 1 := by omega
          have Bv4_60 := Bv4_6.cell 0 _ rfl
          have Bv4_61 := Bv4_6.cell 1 _ rfl
          have Bv4_62 := Bv4_6.cell 2 _ rfl
          have Bv4_63 := Bv4_6.cell 3 _ rfl
          have Bv4_64 := Bv4_6.cell 4 _ rfl
          have Bv4_7l := Bv4_7.lt
          have Bv4_7f := Bv4_7.free
          have Bv4_7l1 : v4_7 < w5.heap.size + 1 := by omega
          have Bv4_7l2 : v4_7 < w5.heap.size + 1 + 1 := by omega
          have Bv4_7l3 : v4_7 < w5.heap.size + 1 + 1 + 1 := by omega
          have Bv4_70 := Bv4_7.cell 0 _ rfl
          have Bv4_71 := Bv4_7.cell 1 _ rfl
          have Bv4_72 := Bv4_7.cell 2 _ rfl
          have Bv4_73 := Bv4_7.cell 3 _ rfl
          have Bv4_74 := Bv4_7.cell 4 _ rfl
          go_wp2_with fail
          (with_reducible refine (H4.out _).mono ?_)
          rintro e w6 ⟨rfl, hb⟩
          have X1' : Box w6 (w.heap.size) #[.int .i64 (x), .int .u64 (limb 0 A), .int .u64 (limb 1 A), .int .u64 (limb 2 A), .int .u64 (limb 3 A)] := Box.call hb (by repeat (first | with_reducible assumption | with_reducible apply Box.set10 | with_reducible apply Box.set20 | with_reducible apply Box.set21 | with_reducible apply Box.set40 | with_reducible apply Box.set41 | with_reducible apply Box.set42 | with_reducible apply Box.set43 | with_reducible apply Box.set50 | with_reducible apply Box.set51 | with_reducible apply Box.set52 | with_reducible apply Box.set53 | with_reducible apply Box.set54 | with_reducible apply Box.set80 | with_reducible apply Box.set81 | with_reducible apply Box.set82 | with_reducible apply Box.set83 | with_reducible apply Box.set84 | with_reducible apply Box.set85 | with_reducible apply Box.set86 | with_reducible apply Box.set87 | with_reducible apply Box.drew | (with_reducible apply Box.newAt; (try simp only [World.size_alloc, World.size_setCell, World.size_drew]); done) | with_reducible apply Box.alloc | (with_reducible apply Box.other; case hne => ((try simp only [World.size_alloc, World.size_setCell, World.size_drew]); omega))))
          have X2' : Box w6 (w.heap.size + 1) #[.int .i64 (y), .int .u64 (limb 0 B), .int .u64 (limb 1 B), .int .u64 (limb 2 B), .int .u64 (limb 3 B)] := Box.call hb (by repeat (first | with_reducible assumption | with_reducible apply Box.set10 | with_reducible apply Box.set20 | with_reducible apply Box.set21 | with_reducible apply Box.set40 | with_reducible apply Box.set41 | with_reducible apply Box.set42 | with_reducible apply Box.set43 | with_reducible apply Box.set50 | with_reducible apply Box.set51 | with_reducible apply Box.set52 | with_reducible apply Box.set53 | with_reducible apply Box.set54 | with_reducible apply Box.set80 | with_reducible apply Box.set81 | with_reducible apply Box.set82 | with_reducible apply Box.set83 | with_reducible apply Box.set84 | with_reducible apply Box.set85 | with_reducible apply Box.set86 | with_reducible apply Box.set87 | with_reducible apply Box.drew | (with_reducible apply Box.newAt; (try simp only [World.size_alloc, World.size_setCell, World.size_drew]); done) | with_reducible apply Box.alloc | (with_reducible apply Box.other; case hne => ((try simp only [World.size_alloc, World.size_setCell, World.size_drew]); omega))))
          have Bv2_2' : Box w6 (v2_2) #[.int .i64 (x + d), .int .u64 (limb 0 A), .int .u64 (limb 1 A), .int .u64 (limb 2 A), .int .u64 (limb 3 A)] := Box.call hb (by repeat (first | with_reducible assumption | with_reducible apply Box.set10 | with_reducible apply Box.set20 | with_reducible apply Box.set21 | with_reducible apply Box.set40 | with_reducible apply Box.set41 | with_reducible apply Box.set42 | with_reducible apply Box.set43 | with_reducible apply Box.set50 | with_reducible apply Box.set51 | with_reducible apply Box.set52 | with_reducible apply Box.set53 | with_reducible apply Box.set54 | with_reducible apply Box.set80 | with_reducible apply Box.set81 | with_reducible apply Box.set82 | with_reducible apply Box.set83 | with_reducible apply Box.set84 | with_reducible apply Box.set85 | with_reducible apply Box.set86 | with_reducible apply Box.set87 | with_reducible apply Box.drew | (with_reducible apply Box.newAt; (try simp only [World.size_alloc, World.size_setCell, World.size_drew]); done) | with_reducible apply Box.alloc | (with_reducible apply Box.other; case hne => ((try simp only [World.size_alloc, World.size_setCell, World.size_drew]); omega))))
          have Bv2_3' : Box w6 (v2_3) #[.int .i64 (y + d), .int .u64 (limb 0 B), .int .u64 (limb 1 B), .int .u64 (limb 2 B), .int .u64 (limb 3 B)] := Box.call hb (by repeat (first | with_reducible assumption | with_reducible apply Box.set10 | with_reducible apply Box.set20 | with_reducible apply Box.set21 | with_reducible apply Box.set40 | with_reducible apply Box.set41 | with_reducible apply Box.set42 | with_reducible apply Box.set43 | with_reducible apply Box.set50 | with_reducible apply Box.set51 | with_reducible apply Box.set52 | with_reducible apply Box.set53 | with_reducible apply Box.set54 | with_reducible apply Box.set80 | with_reducible apply Box.set81 | with_reducible apply Box.set82 | with_reducible apply Box.set83 | with_reducible apply Box.set84 | with_reducible apply Box.set85 | with_reducible apply Box.set86 | with_reducible apply Box.set87 | with_reducible apply Box.drew | (with_reducible apply Box.newAt; (try simp only [World.size_alloc, World.size_setCell, World.size_drew]); done) | with_reducible apply Box.alloc | (with_reducible apply Box.other; case hne => ((try simp only [World.size_alloc, World.size_setCell, World.size_drew]); omega))))
          have Bv4_6' : Box w6 (v4_6) #[.int .i64 (l), .int .u64 (limb 0 S), .int .u64 (limb 1 S), .int .u64 (limb 2 S), .int .u64 (limb 3 S)] := Box.call hb (by repeat (first | with_reducible assumption | with_reducible apply Box.set10 | with_reducible apply Box.set20 | with_reducible apply Box.set21 | with_reducible apply Box.set40 | with_reducible apply Box.set41 | with_reducible apply Box.set42 | with_reducible apply Box.set43 | with_reducible apply Box.set50 | with_reducible apply Box.set51 | with_reducible apply Box.set52 | with_reducible apply Box.set53 | with_reducible apply Box.set54 | with_reducible apply Box.set80 | with_reducible apply Box.set81 | with_reducible apply Box.set82 | with_reducible apply Box.set83 | with_reducible apply Box.set84 | with_reducible apply Box.set85 | with_reducible apply Box.set86 | with_reducible apply Box.set87 | with_reducible apply Box.drew | (with_reducible apply Box.newAt; (try simp only [World.size_alloc, World.size_setCell, World.size_drew]); done) | with_reducible apply Box.alloc | (with_reducible apply Box.other; case hne => ((try simp only [World.size_alloc, World.size_setCell, World.size_drew]); omega))))
          have Bv4_7' : Box w6 (v4_7) #[.int .i64 (l + d), .int .u64 (limb 0 S), .int .u64 (limb 1 S), .int .u64 (limb 2 S), .int .u64 (limb 3 S)] := Box.call hb (by repeat (first | with_reducible assumption | with_reducible apply Box.set10 | with_reducible apply Box.set20 | with_reducible apply Box.set21 | with_reducible apply Box.set40 | with_reducible apply Box.set41 | with_reducible apply Box.set42 | with_reducible apply Box.set43 | with_reducible apply Box.set50 | with_reducible apply Box.set51 | with_reducible apply Box.set52 | with_reducible apply Box.set53 | with_reducible apply Box.set54 | with_reducible apply Box.set80 | with_reducible apply Box.set81 | with_reducible apply Box.set82 | with_reducible apply Box.set83 | with_reducible apply Box.set84 | with_reducible apply Box.set85 | with_reducible apply Box.set86 | with_reducible apply Box.set87 | with_reducible apply Box.drew | (with_reducible apply Box.newAt; (try simp only [World.size_alloc, World.size_setCell, World.size_drew]); done) | with_reducible apply Box.alloc | (with_reducible apply Box.other; case hne => ((try simp only [World.size_alloc, World.size_setCell, World.size_drew]); omega))))
          have X3' : Box w6 (w5.heap.size) #[.int .i64 (m), .int .u64 (limb 0 T), .int .u64 (limb 1 T), .int .u64 (limb 2 T), .int .u64 (limb 3 T)] := Box.call hb (by repeat (first | with_reducible assumption | with_reducible apply Box.set10 | with_reducible apply Box.set20 | with_reducible apply Box.set21 | with_reducible apply Box.set40 | with_reducible apply Box.set41 | with_reducible apply Box.set42 | with_reducible apply Box.set43 | with_reducible apply Box.set50 | with_reducible apply Box.set51 | with_reducible apply Box.set52 | with_reducible apply Box.set53 | with_reducible apply Box.set54 | with_reducible apply Box.set80 | with_reducible apply Box.set81 | with_reducible apply Box.set82 | with_reducible apply Box.set83 | with_reducible apply Box.set84 | with_reducible apply Box.set85 | with_reducible apply Box.set86 | with_reducible apply Box.set87 | with_reducible apply Box.drew | (with_reducible apply Box.newAt; (try simp only [World.size_alloc, World.size_setCell, World.size_drew]); done) | with_reducible apply Box.alloc | (with_reducible apply Box.other; case hne => ((try simp only [World.size_alloc, World.size_setCell, World.size_drew]); omega))))
          have hk' : Kept w.heap.size w w6 := Kept.step (by repeat (first | with_reducible exact hk | with_reducible exact Kept.refl _ | with_reducible refine Kept.alloc ?_ _ | with_reducible refine Kept.drew ?_ | with_reducible refine Kept.setCell ?_ (by simp only [World.size_alloc, World.size_setCell, World.size_drew]; omega) _)) hb
          clear hk hb
          clear X1 X1l1 X1l2 X1l3 X1f X10 X11 X12 X13 X14
          clear X2 X2l1 X2l2 X2l3 X2f X20 X21 X22 X23 X24
          clear Bv2_2 Bv2_2l1 Bv2_2l2 Bv2_2l3 Bv2_2f Bv2_20 Bv2_21 Bv2_22 Bv2_23 Bv2_24
          clear Bv2_3 Bv2_3l1 Bv2_3l2 Bv2_3l3 Bv2_3f Bv2_30 Bv2_31 Bv2_32 Bv2_33 Bv2_34
          clear Bv4_6 Bv4_6l1 Bv4_6l2 Bv4_6l3 Bv4_6f Bv4_60 Bv4_61 Bv4_62 Bv4_63 Bv4_64
          clear Bv4_7 Bv4_7l1 Bv4_7l2 Bv4_7l3 Bv4_7f Bv4_70 Bv4_71 Bv4_72 Bv4_73 Bv4_74
          have X1 := X1'
          clear X1'
          have X2 := X2'
          clear X2'
          have Bv2_2 := Bv2_2'
          clear Bv2_2'
          have Bv2_3 := Bv2_3'
          clear Bv2_3'
          have Bv4_6 := Bv4_6'
          clear Bv4_6'
          have Bv4_7 := Bv4_7'
          clear Bv4_7'
          have X3 := X3'
          clear X3'
          have hk := hk'
          clear hk'
          have hz_w6 := hk.size
          have X1l := X1.lt
          have X1f := X1.free
          have X1l1 : w.heap.size < w6.heap.size + 1 := by omega
          have X1l2 : w.heap.size < w6.heap.size + 1 + 1 := by omega
          have X1l3 : w.heap.size < w6.heap.size + 1 + 1 + 1 := by omega
          have X10 := X1.cell 0 _ rfl
          have X11 := X1.cell 1 _ rfl
          have X12 := X1.cell 2 _ rfl
          have X13 := X1.cell 3 _ rfl
          have X14 := X1.cell 4 _ rfl
          have X2l := X2.lt
          have X2f := X2.free
          have X2l1 : w.heap.size + 1 < w6.heap.size + 1 := by omega
          have X2l2 : w.heap.size + 1 < w6.heap.size + 1 + 1 := by omega
          have X2l3 : w.heap.size + 1 < w6.heap.size + 1 + 1 + 1 := by omega
          have X20 := X2.cell 0 _ rfl
          have X21 := X2.cell 1 _ rfl
          have X22 := X2.cell 2 _ rfl
          have X23 := X2.cell 3 _ rfl
          have X24 := X2.cell 4 _ rfl
          have Bv2_2l := Bv2_2.lt
          have Bv2_2f := Bv2_2.free
          have Bv2_2l1 : v2_2 < w6.heap.size + 1 := by omega
          have Bv2_2l2 : v2_2 < w6.heap.size + 1 + 1 := by omega
          have Bv2_2l3 : v2_2 < w6.heap.size + 1 + 1 + 1 := by omega
          have Bv2_20 := Bv2_2.cell 0 _ rfl
          have Bv2_21 := Bv2_2.cell 1 _ rfl
          have Bv2_22 := Bv2_2.cell 2 _ rfl
          have Bv2_23 := Bv2_2.cell 3 _ rfl
          have Bv2_24 := Bv2_2.cell 4 _ rfl
          have Bv2_3l := Bv2_3.lt
          have Bv2_3f := Bv2_3.free
          have Bv2_3l1 : v2_3 < w6.heap.size + 1 := by omega
          have Bv2_3l2 : v2_3 < w6.heap.size + 1 + 1 := by omega
          have Bv2_3l3 : v2_3 < w6.heap.size + 1 + 1 + 1 := by omega
          have Bv2_30 := Bv2_3.cell 0 _ rfl
          have Bv2_31 := Bv2_3.cell 1 _ rfl
          have Bv2_32 := Bv2_3.cell 2 _ rfl
          have Bv2_33 := Bv2_3.cell 3 _ rfl
          have Bv2_34 := Bv2_3.cell 4 _ rfl
          have Bv4_6l := Bv4_6.lt
          have Bv4_6f := Bv4_6.free
          have Bv4_6l1 : v4_6 < w6.heap.size + 1 := by omega
          have Bv4_6l2 : v4_6 < w6.heap.size + 1 + 1 := by omega
          have Bv4_6l3 : v4_6 < w6.heap.size + 1 + 1 + 1 := by omega
          have Bv4_60 := Bv4_6.cell 0 _ rfl
          have Bv4_61 := Bv4_6.cell 1 _ rfl
          have Bv4_62 := Bv4_6.cell 2 _ rfl
          have Bv4_63 := Bv4_6.cell 3 _ rfl
          have Bv4_64 := Bv4_6.cell 4 _ rfl
          have Bv4_7l := Bv4_7.lt
          have Bv4_7f := Bv4_7.free
          have Bv4_7l1 : v4_7 < w6.heap.size + 1 := by omega
          have Bv4_7l2 : v4_7 < w6.heap.size + 1 + 1 := by omega
          have Bv4_7l3 : v4_7 < w6.heap.size + 1 + 1 + 1 := by omega
          have Bv4_70 := Bv4_7.cell 0 _ rfl
          have Bv4_71 := Bv4_7.cell 1 _ rfl
          have Bv4_72 := Bv4_7.cell 2 _ rfl
          have Bv4_73 := Bv4_7.cell 3 _ rfl
          have Bv4_74 := Bv4_7.cell 4 _ rfl
          have X3l := X3.lt
          have X3f := X3.free
          have X3l1 : w5.heap.size < w6.heap.size + 1 := by omega
          have X3l2 : w5.heap.size < w6.heap.size + 1 + 1 := by omega
          have X3l3 : w5.heap.size < w6.heap.size + 1 + 1 + 1 := by omega
          have X30 := X3.cell 0 _ rfl
          have X31 := X3.cell 1 _ rfl
          have X32 := X3.cell 2 _ rfl
          have X33 := X3.cell 3 _ rfl
          have X34 := X3.cell 4 _ rfl
          go_wp2
          refine wp_region_g 50 (fun W' => Kept w.heap.size w W' ∧ w6.heap.size + 1 ≤ W'.heap.size ∧ Box W' (w.heap.size) #[.int .i64 (x), .int .u64 (limb 0 A), .int .u64 (limb 1 A), .int .u64 (limb 2 A), .int .u64 (limb 3 A)] ∧ Box W' (w.heap.size + 1) #[.int .i64 (y), .int .u64 (limb 0 B), .int .u64 (limb 1 B), .int .u64 (limb 2 B), .int .u64 (limb 3 B)] ∧ Box W' (v2_2) #[.int .i64 (x + d), .int .u64 (limb 0 A), .int .u64 (limb 1 A), .int .u64 (limb 2 A), .int .u64 (limb 3 A)] ∧ Box W' (v2_3) #[.int .i64 (y + d), .int .u64 (limb 0 B), .int .u64 (limb 1 B), .int .u64 (limb 2 B), .int .u64 (limb 3 B)] ∧ Box W' (v4_6) #[.int .i64 (l), .int .u64 (limb 0 S), .int .u64 (limb 1 S), .int .u64 (limb 2 S), .int .u64 (limb 3 S)] ∧ Box W' (v4_7) #[.int .i64 (l + d), .int .u64 (limb 0 S), .int .u64 (limb 1 S), .int .u64 (limb 2 S), .int .u64 (limb 3 S)] ∧ Box W' (w5.heap.size) #[.int .i64 (m), .int .u64 (limb 0 T), .int .u64 (limb 1 T), .int .u64 (limb 2 T), .int .u64 (limb 3 T)] ∧ Box W' (w6.heap.size) #[.int .i64 (m + d), .int .u64 (limb 0 T), .int .u64 (limb 1 T), .int .u64 (limb 2 T), .int .u64 (limb 3 T)]) (fun W' => Kept w.heap.size w W' ∧ w6.heap.size + 1 ≤ W'.heap.size ∧ Box W' (w.heap.size) #[.int .i64 (x), .int .u64 (limb 0 A), .int .u64 (limb 1 A), .int .u64 (limb 2 A), .int .u64 (limb 3 A)] ∧ Box W' (w.heap.size + 1) #[.int .i64 (y), .int .u64 (limb 0 B), .int .u64 (limb 1 B), .int .u64 (limb 2 B), .int .u64 (limb 3 B)] ∧ Box W' (v2_2) #[.int .i64 (x + d), .int .u64 (limb 0 A), .int .u64 (limb 1 A), .int .u64 (limb 2 A), .int .u64 (limb 3 A)] ∧ Box W' (v2_3) #[.int .i64 (y + d), .int .u64 (limb 0 B), .int .u64 (limb 1 B), .int .u64 (limb 2 B), .int .u64 (limb 3 B)] ∧ Box W' (v4_6) #[.int .i64 (l), .int .u64 (limb 0 S), .int .u64 (limb 1 S), .int .u64 (limb 2 S), .int .u64 (limb 3 S)] ∧ Box W' (v4_7) #[.int .i64 (l + d), .int .u64 (limb 0 S), .int .u64 (limb 1 S), .int .u64 (limb 2 S), .int .u64 (limb 3 S)] ∧ Box W' (w5.heap.size) #[.int .i64 (m), .int .u64 (limb 0 T), .int .u64 (limb 1 T), .int .u64 (limb 2 T), .int .u64 (limb 3 T)] ∧ Box W' (w6.heap.size) #[.int .i64 (m + d), .int .u64 (limb 0 T), .int .u64 (limb 1 T), .int .u64 (limb 2 T), .int .u64 (limb 3 T)]) 1000 (w6.heap.size + 1) [.known (.pointer (some ⟨v4_7, 0, none⟩)), .known (.int .i64 (l + d)), .known (.pointer (some ⟨v4_6, 0, none⟩)), .known (.int .i64 (l)), .known (.int .i16 (d)), .known (.int .i64 (d)), .known (.int .i64 (l + d)), .known (.bool true), .known (.bool true), .known (.pointer (some ⟨v4_7, 1, none⟩)), .known (wideV S), .known (.pointer (some ⟨v4_6, 1, none⟩)), .known (wideV S), .known (.bool true), .known (.bool true), .known (.bool true), .known (.pointer (some ⟨w6.heap.size, 0, none⟩)), .known (.int .i64 (m + d)), .known (.pointer (some ⟨w5.heap.size, 0, none⟩)), .known (.int .i64 (m)), .known (.int .i16 (d)), .known (.int .i64 (d)), .known (.int .i64 (m + d)), .known (.bool true), .known (.bool true), .known (.bool true), .known (.pointer (some ⟨w6.heap.size, 1, none⟩)), .known (wideV T), .known (.pointer (some ⟨w5.heap.size, 1, none⟩)), .known (wideV T), .known (.bool true), .known (.bool true), .known (.bool true), .known (.bool true), .known (.bool true), .known (.bool true), .known (.bool true), .known (.bool true), .known (termV x A), .known (termV y B), .known (.int .i64 (c)), .known (termV (x + d) A), .known (termV (y + d) B), .known (.int .i64 (c)), .known (.bool true), .known (.bool true), .known (.bool true), .known (.bool true), .known (.bool true), .known (.bool true)] (by kernel_rfl) (by kernel_rfl) (fun W W' h hb => ⟨h.1.step hb, Nat.le_trans (h.2.1) hb.size, Box.call hb (h.2.2.1), Box.call hb (h.2.2.2.1), Box.call hb (h.2.2.2.2.1), Box.call hb (h.2.2.2.2.2.1), Box.call hb (h.2.2.2.2.2.2.1), Box.call hb (h.2.2.2.2.2.2.2.1), Box.call hb (h.2.2.2.2.2.2.2.2.1), Box.call hb (h.2.2.2.2.2.2.2.2.2)⟩) (fun W W' h hb => ⟨h.1.step hb, Nat.le_trans (h.2.1) hb.size, Box.call hb (h.2.2.1), Box.call hb (h.2.2.2.1), Box.call hb (h.2.2.2.2.1), Box.call hb (h.2.2.2.2.2.1), Box.call hb (h.2.2.2.2.2.2.1), Box.call hb (h.2.2.2.2.2.2.2.1), Box.call hb (h.2.2.2.2.2.2.2.2.1), Box.call hb (h.2.2.2.2.2.2.2.2.2)⟩) (no_out (of_decide_eq_true (by kernel_rfl))) (.inl (by kernel_rfl)) (.inl (by kernel_rfl)) (fun _ h => h.2.1) (fun _ h => h.2.1) (⟨(by repeat (first | with_reducible exact hk | with_reducible exact Kept.refl _ | with_reducible refine Kept.alloc ?_ _ | with_reducible refine Kept.drew ?_ | with_reducible refine Kept.setCell ?_ (by simp only [World.size_alloc, World.size_setCell, World.size_drew]; omega) _)), (by (try simp only [World.size_alloc, World.size_setCell, World.size_drew]); omega), (by repeat (first | with_reducible assumption | with_reducible apply Box.set10 | with_reducible apply Box.set20 | with_reducible apply Box.set21 | with_reducible apply Box.set40 | with_reducible apply Box.set41 | with_reducible apply Box.set42 | with_reducible apply Box.set43 | with_reducible apply Box.set50 | with_reducible apply Box.set51 | with_reducible apply Box.set52 | with_reducible apply Box.set53 | with_reducible apply Box.set54 | with_reducible apply Box.set80 | with_reducible apply Box.set81 | with_reducible apply Box.set82 | with_reducible apply Box.set83 | with_reducible apply Box.set84 | with_reducible apply Box.set85 | with_reducible apply Box.set86 | with_reducible apply Box.set87 | with_reducible apply Box.drew | (with_reducible apply Box.newAt; (try simp only [World.size_alloc, World.size_setCell, World.size_drew]); done) | with_reducible apply Box.alloc | (with_reducible apply Box.other; case hne => ((try simp only [World.size_alloc, World.size_setCell, World.size_drew]); omega)))), (by repeat (first | with_reducible assumption | with_reducible apply Box.set10 | with_reducible apply Box.set20 | with_reducible apply Box.set21 | with_reducible apply Box.set40 | with_reducible apply Box.set41 | with_reducible apply Box.set42 | with_reducible apply Box.set43 | with_reducible apply Box.set50 | with_reducible apply Box.set51 | with_reducible apply Box.set52 | with_reducible apply Box.set53 | with_reducible apply Box.set54 | with_reducible apply Box.set80 | with_reducible apply Box.set81 | with_reducible apply Box.set82 | with_reducible apply Box.set83 | with_reducible apply Box.set84 | with_reducible apply Box.set85 | with_reducible apply Box.set86 | with_reducible apply Box.set87 | with_reducible apply Box.drew | (with_reducible apply Box.newAt; (try simp only [World.size_alloc, World.size_setCell, World.size_drew]); done) | with_reducible apply Box.alloc | (with_reducible apply Box.other; case hne => ((try simp only [World.size_alloc, World.size_setCell, World.size_drew]); omega)))), (by repeat (first | with_reducible assumption | with_reducible apply Box.set10 | with_reducible apply Box.set20 | with_reducible apply Box.set21 | with_reducible apply Box.set40 | with_reducible apply Box.set41 | with_reducible apply Box.set42 | with_reducible apply Box.set43 | with_reducible apply Box.set50 | with_reducible apply Box.set51 | with_reducible apply Box.set52 | with_reducible apply Box.set53 | with_reducible apply Box.set54 | with_reducible apply Box.set80 | with_reducible apply Box.set81 | with_reducible apply Box.set82 | with_reducible apply Box.set83 | with_reducible apply Box.set84 | with_reducible apply Box.set85 | with_reducible apply Box.set86 | with_reducible apply Box.set87 | with_reducible apply Box.drew | (with_reducible apply Box.newAt; (try simp only [World.size_alloc, World.size_setCell, World.size_drew]); done) | with_reducible apply Box.alloc | (with_reducible apply Box.other; case hne => ((try simp only [World.size_alloc, World.size_setCell, World.size_drew]); omega)))), (by repeat (first | with_reducible assumption | with_reducible apply Box.set10 | with_reducible apply Box.set20 | with_reducible apply Box.set21 | with_reducible apply Box.set40 | with_reducible apply Box.set41 | with_reducible apply Box.set42 | with_reducible apply Box.set43 | with_reducible apply Box.set50 | with_reducible apply Box.set51 | with_reducible apply Box.set52 | with_reducible apply Box.set53 | with_reducible apply Box.set54 | with_reducible apply Box.set80 | with_reducible apply Box.set81 | with_reducible apply Box.set82 | with_reducible apply Box.set83 | with_reducible apply Box.set84 | with_reducible apply Box.set85 | with_reducible apply Box.set86 | with_reducible apply Box.set87 | with_reducible apply Box.drew | (with_reducible apply Box.newAt; (try simp only [World.size_alloc, World.size_setCell, World.size_drew]); done) | with_reducible apply Box.alloc | (with_reducible apply Box.other; case hne => ((try simp only [World.size_alloc, World.size_setCell, World.size_drew]); omega)))), (by repeat (first | with_reducible assumption | with_reducible apply Box.set10 | with_reducible apply Box.set20 | with_reducible apply Box.set21 | with_reducible apply Box.set40 | with_reducible apply Box.set41 | with_reducible apply Box.set42 | with_reducible apply Box.set43 | with_reducible apply Box.set50 | with_reducible apply Box.set51 | with_reducible apply Box.set52 | with_reducible apply Box.set53 | with_reducible apply Box.set54 | with_reducible apply Box.set80 | with_reducible apply Box.set81 | with_reducible apply Box.set82 | with_reducible apply Box.set83 | with_reducible apply Box.set84 | with_reducible apply Box.set85 | with_reducible apply Box.set86 | with_reducible apply Box.set87 | with_reducible apply Box.drew | (with_reducible apply Box.newAt; (try simp only [World.size_alloc, World.size_setCell, World.size_drew]); done) | with_reducible apply Box.alloc | (with_reducible apply Box.other; case hne => ((try simp only [World.size_alloc, World.size_setCell, World.size_drew]); omega)))), (by repeat (first | with_reducible assumption | with_reducible apply Box.set10 | with_reducible apply Box.set20 | with_reducible apply Box.set21 | with_reducible apply Box.set40 | with_reducible apply Box.set41 | with_reducible apply Box.set42 | with_reducible apply Box.set43 | with_reducible apply Box.set50 | with_reducible apply Box.set51 | with_reducible apply Box.set52 | with_reducible apply Box.set53 | with_reducible apply Box.set54 | with_reducible apply Box.set80 | with_reducible apply Box.set81 | with_reducible apply Box.set82 | with_reducible apply Box.set83 | with_reducible apply Box.set84 | with_reducible apply Box.set85 | with_reducible apply Box.set86 | with_reducible apply Box.set87 | with_reducible apply Box.drew | (with_reducible apply Box.newAt; (try simp only [World.size_alloc, World.size_setCell, World.size_drew]); done) | with_reducible apply Box.alloc | (with_reducible apply Box.other; case hne => ((try simp only [World.size_alloc, World.size_setCell, World.size_drew]); omega)))), (by repeat (first | with_reducible assumption | with_reducible apply Box.set10 | with_reducible apply Box.set20 | with_reducible apply Box.set21 | with_reducible apply Box.set40 | with_reducible apply Box.set41 | with_reducible apply Box.set42 | with_reducible apply Box.set43 | with_reducible apply Box.set50 | with_reducible apply Box.set51 | with_reducible apply Box.set52 | with_reducible apply Box.set53 | with_reducible apply Box.set54 | with_reducible apply Box.set80 | with_reducible apply Box.set81 | with_reducible apply Box.set82 | with_reducible apply Box.set83 | with_reducible apply Box.set84 | with_reducible apply Box.set85 | with_reducible apply Box.set86 | with_reducible apply Box.set87 | with_reducible apply Box.drew | (with_reducible apply Box.newAt; (try simp only [World.size_alloc, World.size_setCell, World.size_drew]); done) | with_reducible apply Box.alloc | (with_reducible apply Box.other; case hne => ((try simp only [World.size_alloc, World.size_setCell, World.size_drew]); omega)))), (by repeat (first | with_reducible assumption | with_reducible apply Box.set10 | with_reducible apply Box.set20 | with_reducible apply Box.set21 | with_reducible apply Box.set40 | with_reducible apply Box.set41 | with_reducible apply Box.set42 | with_reducible apply Box.set43 | with_reducible apply Box.set50 | with_reducible apply Box.set51 | with_reducible apply Box.set52 | with_reducible apply Box.set53 | with_reducible apply Box.set54 | with_reducible apply Box.set80 | with_reducible apply Box.set81 | with_reducible apply Box.set82 | with_reducible apply Box.set83 | with_reducible apply Box.set84 | with_reducible apply Box.set85 | with_reducible apply Box.set86 | with_reducible apply Box.set87 | with_reducible apply Box.drew | (with_reducible apply Box.newAt; (try simp only [World.size_alloc, World.size_setCell, World.size_drew]); done) | with_reducible apply Box.alloc | (with_reducible apply Box.other; case hne => ((try simp only [World.size_alloc, World.size_setCell, World.size_drew]); omega))))⟩) ?_
          clear hk
          clear X1 X1l1 X1l2 X1l3 X1f X10 X11 X12 X13 X14
          clear X2 X2l1 X2l2 X2l3 X2f X20 X21 X22 X23 X24
          clear Bv2_2 Bv2_2l1 Bv2_2l2 Bv2_2l3 Bv2_2f Bv2_20 Bv2_21 Bv2_22 Bv2_23 Bv2_24
          clear Bv2_3 Bv2_3l1 Bv2_3l2 Bv2_3l3 Bv2_3f Bv2_30 Bv2_31 Bv2_32 Bv2_33 Bv2_34
          clear Bv4_6 Bv4_6l1 Bv4_6l2 Bv4_6l3 Bv4_6f Bv4_60 Bv4_61 Bv4_62 Bv4_63 Bv4_64
          clear Bv4_7 Bv4_7l1 Bv4_7l2 Bv4_7l3 Bv4_7f Bv4_70 Bv4_71 Bv4_72 Bv4_73 Bv4_74
          clear X3 X3l1 X3l2 X3l3 X3f X30 X31 X32 X33 X34
          intro ρ
          simp only [List.take_succ_cons, List.take_zero, List.drop_succ_cons, List.drop_zero]
          refine ⟨?_, ?_⟩
          · as_aux_lemma =>
            intro y_ hS_ hO_ hD
            clear hS_ hO_ hD
            refine s_gen (V := .pointer (some ⟨v4_7, 0, none⟩)) [.pointer (some ⟨v4_7, 0, none⟩)] (by kernel_rfl) (by kernel_rfl) (by kernel_rfl) ?_
            intro r_ hr_
            have o0_ : r_ (.tmp 10) = .pointer (some ⟨v4_7, 0, none⟩) := op_at hr_ 0 (by kernel_rfl) (by kernel_rfl)
            clear hr_
            go_simp; first | done | with_reducible rfl | omega
          simp only [Act.put, planVG, List.setIfInBounds_toArray, List.set_cons_zero, List.set_cons_succ, List.getElem?_cons_zero, List.getElem?_cons_succ]
          refine ⟨?_, ?_⟩
          · as_aux_lemma =>
            intro y_ hS_ hO_ hD
            have Q := ((hS_ (by rfl)).2.2.2.2.2.2.2.1).cell
            have q0 := Q 0 _ rfl
            have q1 := Q 1 _ rfl
            have q2 := Q 2 _ rfl
            have q3 := Q 3 _ rfl
            have q4 := Q 4 _ rfl
            clear Q hS_ hO_ hD
            refine s_gen (V := .int .i64 (l + d)) [.pointer (some ⟨v4_7, 0, none⟩)] (by kernel_rfl) (by kernel_rfl) (by kernel_rfl) ?_
            intro r_ hr_
            have o0_ : r_ (.tmp 57) = .pointer (some ⟨v4_7, 0, none⟩) := op_at hr_ 0 (by kernel_rfl) (by kernel_rfl)
            clear hr_
            go_simp; first | done | with_reducible rfl
          simp only [Act.put, planVG, List.setIfInBounds_toArray, List.set_cons_zero, List.set_cons_succ, List.getElem?_cons_zero, List.getElem?_cons_succ]
          refine ⟨?_, ?_⟩
          · as_aux_lemma =>
            intro y_ hS_ hO_ hD
            clear hS_ hO_ hD
            refine s_gen (V := .pointer (some ⟨v4_6, 0, none⟩)) [.pointer (some ⟨v4_6, 0, none⟩)] (by kernel_rfl) (by kernel_rfl) (by kernel_rfl) ?_
            intro r_ hr_
            have o0_ : r_ (.tmp 9) = .pointer (some ⟨v4_6, 0, none⟩) := op_at hr_ 0 (by kernel_rfl) (by kernel_rfl)
            clear hr_
            go_simp; first | done | with_reducible rfl | omega
          simp only [Act.put, planVG, List.setIfInBounds_toArray, List.set_cons_zero, List.set_cons_succ, List.getElem?_cons_zero, List.getElem?_cons_succ]
          refine ⟨?_, ?_⟩
          · as_aux_lemma =>
            intro y_ hS_ hO_ hD
            have Q := ((hS_ (by rfl)).2.2.2.2.2.2.1).cell
            have q0 := Q 0 _ rfl
            have q1 := Q 1 _ rfl
            have q2 := Q 2 _ rfl
            have q3 := Q 3 _ rfl
            have q4 := Q 4 _ rfl
            clear Q hS_ hO_ hD
            refine s_gen (V := .int .i64 (l)) [.pointer (some ⟨v4_6, 0, none⟩)] (by kernel_rfl) (by kernel_rfl) (by kernel_rfl) ?_
            intro r_ hr_
            have o0_ : r_ (.tmp 59) = .pointer (some ⟨v4_6, 0, none⟩) := op_at hr_ 0 (by kernel_rfl) (by kernel_rfl)
            clear hr_
            go_simp; first | done | with_reducible rfl
          simp only [Act.put, planVG, List.setIfInBounds_toArray, List.set_cons_zero, List.set_cons_succ, List.getElem?_cons_zero, List.getElem?_cons_succ]
          refine ⟨?_, ?_⟩
          · as_aux_lemma =>
            intro y_ hS_ hO_ hD
            clear hS_ hO_ hD
            refine s_gen (V := .int .i16 (d)) [.int .i16 (d)] (by kernel_rfl) (by kernel_rfl) (by kernel_rfl) ?_
            intro r_ hr_
            have o0_ : r_ (.tmp 2) = .int .i16 (d) := op_at hr_ 0 (by kernel_rfl) (by kernel_rfl)
            clear hr_
            go_simp; first | done | with_reducible rfl | omega
          simp only [Act.put, planVG, List.setIfInBounds_toArray, List.set_cons_zero, List.set_cons_succ, List.getElem?_cons_zero, List.getElem?_cons_succ]
          refine ⟨?_, ?_⟩
          · as_aux_lemma =>
            intro y_ hS_ hO_ hD
            clear hS_ hO_ hD
            refine s_gen (V := .int .i64 (d)) [.int .i16 (d)] (by kernel_rfl) (by kernel_rfl) (by kernel_rfl) ?_
            intro r_ hr_
            have o0_ : r_ (.tmp 61) = .int .i16 (d) := op_at hr_ 0 (by kernel_rfl) (by kernel_rfl)
            clear hr_
            go_simp; first | done | with_reducible rfl | omega
          simp only [Act.put, planVG, List.setIfInBounds_toArray, List.set_cons_zero, List.set_cons_succ, List.getElem?_cons_zero, List.getElem?_cons_succ]
          refine ⟨?_, ?_⟩
          · as_aux_lemma =>
            intro y_ hS_ hO_ hD
            clear hS_ hO_ hD
            refine s_gen (V := .int .i64 (l + d)) [.int .i64 (l), .int .i64 (d)] (by kernel_rfl) (by kernel_rfl) (by kernel_rfl) ?_
            intro r_ hr_
            have o0_ : r_ (.tmp 60) = .int .i64 (l) := op_at hr_ 0 (by kernel_rfl) (by kernel_rfl)
            have o1_ : r_ (.tmp 62) = .int .i64 (d) := op_at hr_ 1 (by kernel_rfl) (by kernel_rfl)
            clear hr_
            go_simp; first | done | with_reducible rfl | omega
          simp only [Act.put, planVG, List.setIfInBounds_toArray, List.set_cons_zero, List.set_cons_succ, List.getElem?_cons_zero, List.getElem?_cons_succ]
          refine ⟨?_, ?_⟩
          · as_aux_lemma =>
            intro y_ hS_ hO_ hD
            clear hS_ hO_ hD
            refine s_gen (V := .bool true) [.int .i64 (l + d), .int .i64 (l + d)] (by kernel_rfl) (by kernel_rfl) (by kernel_rfl) ?_
            intro r_ hr_
            have o0_ : r_ (.tmp 58) = .int .i64 (l + d) := op_at hr_ 0 (by kernel_rfl) (by kernel_rfl)
            have o1_ : r_ (.tmp 63) = .int .i64 (l + d) := op_at hr_ 1 (by kernel_rfl) (by kernel_rfl)
            clear hr_
            go_simp; first | done | with_reducible rfl | omega
          simp only [Act.put, planVG, List.setIfInBounds_toArray, List.set_cons_zero, List.set_cons_succ, List.getElem?_cons_zero, List.getElem?_cons_succ]
          refine ⟨?_, ?_⟩
          · as_aux_lemma =>
            intro y_ hS_ hO_ hD
            clear hS_ hO_ hD
            refine s_gen (V := .bool true) [.bool true] (by kernel_rfl) (by kernel_rfl) (by kernel_rfl) ?_
            intro r_ hr_
            have o0_ : r_ (.tmp 64) = .bool true := op_at hr_ 0 (by kernel_rfl) (by kernel_rfl)
            clear hr_
            go_simp; first | done | with_reducible rfl | omega
          simp only [Act.put, planVG, List.setIfInBounds_toArray, List.set_cons_zero, List.set_cons_succ, List.getElem?_cons_zero, List.getElem?_cons_succ]
          refine ⟨?_, ?_⟩
          · as_aux_lemma =>
            intro y_ hS_ hO_ hD
            clear hS_ hO_ hD
            refine s_gen (V := .pointer (some ⟨v4_7, 1, none⟩)) [.pointer (some ⟨v4_7, 0, none⟩)] (by kernel_rfl) (by kernel_rfl) (by kernel_rfl) ?_
            intro r_ hr_
            have o0_ : r_ (.tmp 10) = .pointer (some ⟨v4_7, 0, none⟩) := op_at hr_ 0 (by kernel_rfl) (by kernel_rfl)
            clear hr_
            go_simp; first | done | with_reducible rfl | omega
          simp only [Act.put, planVG, List.setIfInBounds_toArray, List.set_cons_zero, List.set_cons_succ, List.getElem?_cons_zero, List.getElem?_cons_succ]
          refine ⟨?_, ?_⟩
          · as_aux_lemma =>
            intro y_ hS_ hO_ hD
            have Q := ((hS_ (by rfl)).2.2.2.2.2.2.2.1).cell
            have q0 := Q 0 _ rfl
            have q1 := Q 1 _ rfl
            have q2 := Q 2 _ rfl
            have q3 := Q 3 _ rfl
            have q4 := Q 4 _ rfl
            clear Q hS_ hO_ hD
            refine s_gen (V := wideV S) [.pointer (some ⟨v4_7, 1, none⟩)] (by kernel_rfl) (by kernel_rfl) (by kernel_rfl) ?_
            intro r_ hr_
            have o0_ : r_ (.tmp 66) = .pointer (some ⟨v4_7, 1, none⟩) := op_at hr_ 0 (by kernel_rfl) (by kernel_rfl)
            clear hr_
            go_simp; first | done | with_reducible rfl
          simp only [Act.put, planVG, List.setIfInBounds_toArray, List.set_cons_zero, List.set_cons_succ, List.getElem?_cons_zero, List.getElem?_cons_succ]
          refine ⟨?_, ?_⟩
          · as_aux_lemma =>
            intro y_ hS_ hO_ hD
            clear hS_ hO_ hD
            refine s_gen (V := .pointer (some ⟨v4_6, 1, none⟩)) [.pointer (some ⟨v4_6, 0, none⟩)] (by kernel_rfl) (by kernel_rfl) (by kernel_rfl) ?_
            intro r_ hr_
            have o0_ : r_ (.tmp 9) = .pointer (some ⟨v4_6, 0, none⟩) := op_at hr_ 0 (by kernel_rfl) (by kernel_rfl)
            clear hr_
            go_simp; first | done | with_reducible rfl | omega
          simp only [Act.put, planVG, List.setIfInBounds_toArray, List.set_cons_zero, List.set_cons_succ, List.getElem?_cons_zero, List.getElem?_cons_succ]
          refine ⟨?_, ?_⟩
          · as_aux_lemma =>
            intro y_ hS_ hO_ hD
            have Q := ((hS_ (by rfl)).2.2.2.2.2.2.1).cell
            have q0 := Q 0 _ rfl
            have q1 := Q 1 _ rfl
            have q2 := Q 2 _ rfl
            have q3 := Q 3 _ rfl
            have q4 := Q 4 _ rfl
            clear Q hS_ hO_ hD
            refine s_gen (V := wideV S) [.pointer (some ⟨v4_6, 1, none⟩)] (by kernel_rfl) (by kernel_rfl) (by kernel_rfl) ?_
            intro r_ hr_
            have o0_ : r_ (.tmp 68) = .pointer (some ⟨v4_6, 1, none⟩) := op_at hr_ 0 (by kernel_rfl) (by kernel_rfl)
            clear hr_
            go_simp; first | done | with_reducible rfl
          simp only [Act.put, planVG, List.setIfInBounds_toArray, List.set_cons_zero, List.set_cons_succ, List.getElem?_cons_zero, List.getElem?_cons_succ]
          refine ⟨?_, ?_⟩
          · as_aux_lemma =>
            intro y_ hS_ hO_ hD
            clear hS_ hO_ hD
            refine s_gen (V := .bool true) [wideV S, wideV S] (by kernel_rfl) (by kernel_rfl) (by kernel_rfl) ?_
            intro r_ hr_
            have o0_ : r_ (.tmp 67) = wideV S := op_at hr_ 0 (by kernel_rfl) (by kernel_rfl)
            have o1_ : r_ (.tmp 69) = wideV S := op_at hr_ 1 (by kernel_rfl) (by kernel_rfl)
            clear hr_
            go_simp; first | done | with_reducible rfl | omega
          simp only [Act.put, planVG, List.setIfInBounds_toArray, List.set_cons_zero, List.set_cons_succ, List.getElem?_cons_zero, List.getElem?_cons_succ]
          refine ⟨?_, ?_⟩
          · as_aux_lemma =>
            intro y_ hS_ hO_ hD
            clear hS_ hO_ hD
            refine s_gen (V := .bool true) [.bool true, .bool true, .bool false] (by kernel_rfl) (by kernel_rfl) (by kernel_rfl) ?_
            intro r_ hr_
            have o0_ : r_ (.tmp 65) = .bool true := op_at hr_ 0 (by kernel_rfl) (by kernel_rfl)
            have o1_ : r_ (.tmp 70) = .bool true := op_at hr_ 1 (by kernel_rfl) (by kernel_rfl)
            have o2_ : r_ (.const (.bool false)) = .bool false := op_at hr_ 2 (by kernel_rfl) (by kernel_rfl)
            clear hr_
            go_simp; first | done | with_reducible rfl | omega
          simp only [Act.put, planVG, List.setIfInBounds_toArray, List.set_cons_zero, List.set_cons_succ, List.getElem?_cons_zero, List.getElem?_cons_succ]
          refine ⟨?_, ?_⟩
          · as_aux_lemma =>
            intro y_ hS_ hO_ hD
            clear hS_ hO_ hD
            refine s_gen (V := .bool true) [.bool true] (by kernel_rfl) (by kernel_rfl) (by kernel_rfl) ?_
            intro r_ hr_
            have o0_ : r_ (.tmp 71) = .bool true := op_at hr_ 0 (by kernel_rfl) (by kernel_rfl)
            clear hr_
            go_simp; first | done | with_reducible rfl | omega
          simp only [Act.put, planVG, List.setIfInBounds_toArray, List.set_cons_zero, List.set_cons_succ, List.getElem?_cons_zero, List.getElem?_cons_succ]
          refine ⟨?_, ?_⟩
          · as_aux_lemma =>
            intro y_ hS_ hO_ hD
            clear hS_ hO_ hD
            refine s_gen (V := .pointer (some ⟨w6.heap.size, 0, none⟩)) [.pointer (some ⟨w6.heap.size, 0, none⟩)] (by kernel_rfl) (by kernel_rfl) (by kernel_rfl) ?_
            intro r_ hr_
            have o0_ : r_ (.tmp 13) = .pointer (some ⟨w6.heap.size, 0, none⟩) := op_at hr_ 0 (by kernel_rfl) (by kernel_rfl)
            clear hr_
            go_simp; first | done | with_reducible rfl | omega
          simp only [Act.put, planVG, List.setIfInBounds_toArray, List.set_cons_zero, List.set_cons_succ, List.getElem?_cons_zero, List.getElem?_cons_succ]
          refine ⟨?_, ?_⟩
          · as_aux_lemma =>
            intro y_ hS_ hO_ hD
            have Q := ((hS_ (by rfl)).2.2.2.2.2.2.2.2.2).cell
            have q0 := Q 0 _ rfl
            have q1 := Q 1 _ rfl
            have q2 := Q 2 _ rfl
            have q3 := Q 3 _ rfl
            have q4 := Q 4 _ rfl
            clear Q hS_ hO_ hD
            refine s_gen (V := .int .i64 (m + d)) [.pointer (some ⟨w6.heap.size, 0, none⟩)] (by kernel_rfl) (by kernel_rfl) (by kernel_rfl) ?_
            intro r_ hr_
            have o0_ : r_ (.tmp 73) = .pointer (some ⟨w6.heap.size, 0, none⟩) := op_at hr_ 0 (by kernel_rfl) (by kernel_rfl)
            clear hr_
            go_simp; first | done | with_reducible rfl
          simp only [Act.put, planVG, List.setIfInBounds_toArray, List.set_cons_zero, List.set_cons_succ, List.getElem?_cons_zero, List.getElem?_cons_succ]
          refine ⟨?_, ?_⟩
          · as_aux_lemma =>
            intro y_ hS_ hO_ hD
            clear hS_ hO_ hD
            refine s_gen (V := .pointer (some ⟨w5.heap.size, 0, none⟩)) [.pointer (some ⟨w5.heap.size, 0, none⟩)] (by kernel_rfl) (by kernel_rfl) (by kernel_rfl) ?_
            intro r_ hr_
            have o0_ : r_ (.tmp 11) = .pointer (some ⟨w5.heap.size, 0, none⟩) := op_at hr_ 0 (by kernel_rfl) (by kernel_rfl)
            clear hr_
            go_simp; first | done | with_reducible rfl | omega
          simp only [Act.put, planVG, List.setIfInBounds_toArray, List.set_cons_zero, List.set_cons_succ, List.getElem?_cons_zero, List.getElem?_cons_succ]
          refine ⟨?_, ?_⟩
          · as_aux_lemma =>
            intro y_ hS_ hO_ hD
            have Q := ((hS_ (by rfl)).2.2.2.2.2.2.2.2.1).cell
            have q0 := Q 0 _ rfl
            have q1 := Q 1 _ rfl
            have q2 := Q 2 _ rfl
            have q3 := Q 3 _ rfl
            have q4 := Q 4 _ rfl
            clear Q hS_ hO_ hD
            refine s_gen (V := .int .i64 (m)) [.pointer (some ⟨w5.heap.size, 0, none⟩)] (by kernel_rfl) (by kernel_rfl) (by kernel_rfl) ?_
            intro r_ hr_
            have o0_ : r_ (.tmp 75) = .pointer (some ⟨w5.heap.size, 0, none⟩) := op_at hr_ 0 (by kernel_rfl) (by kernel_rfl)
            clear hr_
            go_simp; first | done | with_reducible rfl
          simp only [Act.put, planVG, List.setIfInBounds_toArray, List.set_cons_zero, List.set_cons_succ, List.getElem?_cons_zero, List.getElem?_cons_succ]
          refine ⟨?_, ?_⟩
          · as_aux_lemma =>
            intro y_ hS_ hO_ hD
            clear hS_ hO_ hD
            refine s_gen (V := .int .i16 (d)) [.int .i16 (d)] (by kernel_rfl) (by kernel_rfl) (by kernel_rfl) ?_
            intro r_ hr_
            have o0_ : r_ (.tmp 2) = .int .i16 (d) := op_at hr_ 0 (by kernel_rfl) (by kernel_rfl)
            clear hr_
            go_simp; first | done | with_reducible rfl | omega
          simp only [Act.put, planVG, List.setIfInBounds_toArray, List.set_cons_zero, List.set_cons_succ, List.getElem?_cons_zero, List.getElem?_cons_succ]
          refine ⟨?_, ?_⟩
          · as_aux_lemma =>
            intro y_ hS_ hO_ hD
            clear hS_ hO_ hD
            refine s_gen (V := .int .i64 (d)) [.int .i16 (d)] (by kernel_rfl) (by kernel_rfl) (by kernel_rfl) ?_
            intro r_ hr_
            have o0_ : r_ (.tmp 77) = .int .i16 (d) := op_at hr_ 0 (by kernel_rfl) (by kernel_rfl)
            clear hr_
            go_simp; first | done | with_reducible rfl | omega
          simp only [Act.put, planVG, List.setIfInBounds_toArray, List.set_cons_zero, List.set_cons_succ, List.getElem?_cons_zero, List.getElem?_cons_succ]
          refine ⟨?_, ?_⟩
          · as_aux_lemma =>
            intro y_ hS_ hO_ hD
            clear hS_ hO_ hD
            refine s_gen (V := .int .i64 (m + d)) [.int .i64 (m), .int .i64 (d)] (by kernel_rfl) (by kernel_rfl) (by kernel_rfl) ?_
            intro r_ hr_
            have o0_ : r_ (.tmp 76) = .int .i64 (m) := op_at hr_ 0 (by kernel_rfl) (by kernel_rfl)
            have o1_ : r_ (.tmp 78) = .int .i64 (d) := op_at hr_ 1 (by kernel_rfl) (by kernel_rfl)
            clear hr_
            go_simp; first | done | with_reducible rfl | omega
          simp only [Act.put, planVG, List.setIfInBounds_toArray, List.set_cons_zero, List.set_cons_succ, List.getElem?_cons_zero, List.getElem?_cons_succ]
          refine ⟨?_, ?_⟩
          · as_aux_lemma =>
            intro y_ hS_ hO_ hD
            clear hS_ hO_ hD
            refine s_gen (V := .bool true) [.int .i64 (m + d), .int .i64 (m + d)] (by kernel_rfl) (by kernel_rfl) (by kernel_rfl) ?_
            intro r_ hr_
            have o0_ : r_ (.tmp 74) = .int .i64 (m + d) := op_at hr_ 0 (by kernel_rfl) (by kernel_rfl)
            have o1_ : r_ (.tmp 79) = .int .i64 (m + d) := op_at hr_ 1 (by kernel_rfl) (by kernel_rfl)
            clear hr_
            go_simp; first | done | with_reducible rfl | omega
          simp only [Act.put, planVG, List.setIfInBounds_toArray, List.set_cons_zero, List.set_cons_succ, List.getElem?_cons_zero, List.getElem?_cons_succ]
          refine ⟨?_, ?_⟩
          · as_aux_lemma =>
            intro y_ hS_ hO_ hD
            clear hS_ hO_ hD
            refine s_gen (V := .bool true) [.bool true, .bool true, .bool false] (by kernel_rfl) (by kernel_rfl) (by kernel_rfl) ?_
            intro r_ hr_
            have o0_ : r_ (.tmp 72) = .bool true := op_at hr_ 0 (by kernel_rfl) (by kernel_rfl)
            have o1_ : r_ (.tmp 80) = .bool true := op_at hr_ 1 (by kernel_rfl) (by kernel_rfl)
            have o2_ : r_ (.const (.bool false)) = .bool false := op_at hr_ 2 (by kernel_rfl) (by kernel_rfl)
            clear hr_
            go_simp; first | done | with_reducible rfl | omega
          simp only [Act.put, planVG, List.setIfInBounds_toArray, List.set_cons_zero, List.set_cons_succ, List.getElem?_cons_zero, List.getElem?_cons_succ]
          refine ⟨?_, ?_⟩
          · as_aux_lemma =>
            intro y_ hS_ hO_ hD
            clear hS_ hO_ hD
            refine s_gen (V := .bool true) [.bool true] (by kernel_rfl) (by kernel_rfl) (by kernel_rfl) ?_
            intro r_ hr_
            have o0_ : r_ (.tmp 81) = .bool true := op_at hr_ 0 (by kernel_rfl) (by kernel_rfl)
            clear hr_
            go_simp; first | done | with_reducible rfl | omega
          simp only [Act.put, planVG, List.setIfInBounds_toArray, List.set_cons_zero, List.set_cons_succ, List.getElem?_cons_zero, List.getElem?_cons_succ]
          refine ⟨?_, ?_⟩
          · as_aux_lemma =>
            intro y_ hS_ hO_ hD
            clear hS_ hO_ hD
            refine s_gen (V := .pointer (some ⟨w6.heap.size, 1, none⟩)) [.pointer (some ⟨w6.heap.size, 0, none⟩)] (by kernel_rfl) (by kernel_rfl) (by kernel_rfl) ?_
            intro r_ hr_
            have o0_ : r_ (.tmp 13) = .pointer (some ⟨w6.heap.size, 0, none⟩) := op_at hr_ 0 (by kernel_rfl) (by kernel_rfl)
            clear hr_
            go_simp; first | done | with_reducible rfl | omega
          simp only [Act.put, planVG, List.setIfInBounds_toArray, List.set_cons_zero, List.set_cons_succ, List.getElem?_cons_zero, List.getElem?_cons_succ]
          refine ⟨?_, ?_⟩
          · as_aux_lemma =>
            intro y_ hS_ hO_ hD
            have Q := ((hS_ (by rfl)).2.2.2.2.2.2.2.2.2).cell
            have q0 := Q 0 _ rfl
            have q1 := Q 1 _ rfl
            have q2 := Q 2 _ rfl
            have q3 := Q 3 _ rfl
            have q4 := Q 4 _ rfl
            clear Q hS_ hO_ hD
            refine s_gen (V := wideV T) [.pointer (some ⟨w6.heap.size, 1, none⟩)] (by kernel_rfl) (by kernel_rfl) (by kernel_rfl) ?_
            intro r_ hr_
            have o0_ : r_ (.tmp 83) = .pointer (some ⟨w6.heap.size, 1, none⟩) := op_at hr_ 0 (by kernel_rfl) (by kernel_rfl)
            clear hr_
            go_simp; first | done | with_reducible rfl
          simp only [Act.put, planVG, List.setIfInBounds_toArray, List.set_cons_zero, List.set_cons_succ, List.getElem?_cons_zero, List.getElem?_cons_succ]
          refine ⟨?_, ?_⟩
          · as_aux_lemma =>
            intro y_ hS_ hO_ hD
            clear hS_ hO_ hD
            refine s_gen (V := .pointer (some ⟨w5.heap.size, 1, none⟩)) [.pointer (some ⟨w5.heap.size, 0, none⟩)] (by kernel_rfl) (by kernel_rfl) (by kernel_rfl) ?_
            intro r_ hr_
            have o0_ : r_ (.tmp 11) = .pointer (some ⟨w5.heap.size, 0, none⟩) := op_at hr_ 0 (by kernel_rfl) (by kernel_rfl)
            clear hr_
            go_simp; first | done | with_reducible rfl | omega
          simp only [Act.put, planVG, List.setIfInBounds_toArray, List.set_cons_zero, List.set_cons_succ, List.getElem?_cons_zero, List.getElem?_cons_succ]
          refine ⟨?_, ?_⟩
          · as_aux_lemma =>
            intro y_ hS_ hO_ hD
            have Q := ((hS_ (by rfl)).2.2.2.2.2.2.2.2.1).cell
            have q0 := Q 0 _ rfl
            have q1 := Q 1 _ rfl
            have q2 := Q 2 _ rfl
            have q3 := Q 3 _ rfl
            have q4 := Q 4 _ rfl
            clear Q hS_ hO_ hD
            refine s_gen (V := wideV T) [.pointer (some ⟨w5.heap.size, 1, none⟩)] (by kernel_rfl) (by kernel_rfl) (by kernel_rfl) ?_
            intro r_ hr_
            have o0_ : r_ (.tmp 85) = .pointer (some ⟨w5.heap.size, 1, none⟩) := op_at hr_ 0 (by kernel_rfl) (by kernel_rfl)
            clear hr_
            go_simp; first | done | with_reducible rfl
          simp only [Act.put, planVG, List.setIfInBounds_toArray, List.set_cons_zero, List.set_cons_succ, List.getElem?_cons_zero, List.getElem?_cons_succ]
          refine ⟨?_, ?_⟩
          · as_aux_lemma =>
            intro y_ hS_ hO_ hD
            clear hS_ hO_ hD
            refine s_gen (V := .bool true) [wideV T, wideV T] (by kernel_rfl) (by kernel_rfl) (by kernel_rfl) ?_
            intro r_ hr_
            have o0_ : r_ (.tmp 84) = wideV T := op_at hr_ 0 (by kernel_rfl) (by kernel_rfl)
            have o1_ : r_ (.tmp 86) = wideV T := op_at hr_ 1 (by kernel_rfl) (by kernel_rfl)
            clear hr_
            go_simp; first | done | with_reducible rfl | omega
          simp only [Act.put, planVG, List.setIfInBounds_toArray, List.set_cons_zero, List.set_cons_succ, List.getElem?_cons_zero, List.getElem?_cons_succ]
          refine ⟨?_, ?_⟩
          · as_aux_lemma =>
            intro y_ hS_ hO_ hD
            clear hS_ hO_ hD
            refine s_gen (V := .bool true) [.bool true, .bool true, .bool false] (by kernel_rfl) (by kernel_rfl) (by kernel_rfl) ?_
            intro r_ hr_
            have o0_ : r_ (.tmp 82) = .bool true := op_at hr_ 0 (by kernel_rfl) (by kernel_rfl)
            have o1_ : r_ (.tmp 87) = .bool true := op_at hr_ 1 (by kernel_rfl) (by kernel_rfl)
            have o2_ : r_ (.const (.bool false)) = .bool false := op_at hr_ 2 (by kernel_rfl) (by kernel_rfl)
            clear hr_
            go_simp; first | done | with_reducible rfl | omega
          simp only [Act.put, planVG, List.setIfInBounds_toArray, List.set_cons_zero, List.set_cons_succ, List.getElem?_cons_zero, List.getElem?_cons_succ]
          refine ⟨?_, ?_⟩
          · as_aux_lemma =>
            intro y_ hS_ hO_ hD
            clear hS_ hO_ hD
            refine s_gen (V := .bool true) [.bool true] (by kernel_rfl) (by kernel_rfl) (by kernel_rfl) ?_
            intro r_ hr_
            have o0_ : r_ (.tmp 88) = .bool true := op_at hr_ 0 (by kernel_rfl) (by kernel_rfl)
            clear hr_
            go_simp; first | done | with_reducible rfl | omega
          simp only [Act.put, planVG, List.setIfInBounds_toArray, List.set_cons_zero, List.set_cons_succ, List.getElem?_cons_zero, List.getElem?_cons_succ]
          refine ⟨?_, ?_⟩
          · as_aux_lemma =>
            intro y_ hS_ hO_ hD
            clear hS_ hO_ hD
            refine s_gen (V := .bool true) [.bool true] (by kernel_rfl) (by kernel_rfl) (by kernel_rfl) ?_
            intro r_ hr_
            have o0_ : r_ (.tmp 12) = .bool true := op_at hr_ 0 (by kernel_rfl) (by kernel_rfl)
            clear hr_
            go_simp; first | done | with_reducible rfl | omega
          simp only [Act.put, planVG, List.setIfInBounds_toArray, List.set_cons_zero, List.set_cons_succ, List.getElem?_cons_zero, List.getElem?_cons_succ]
          refine ⟨?_, ?_⟩
          · as_aux_lemma =>
            intro y_ hS_ hO_ hD
            clear hS_ hO_ hD
            refine s_gen (V := .bool true) [.bool true] (by kernel_rfl) (by kernel_rfl) (by kernel_rfl) ?_
            intro r_ hr_
            have o0_ : r_ (.tmp 14) = .bool true := op_at hr_ 0 (by kernel_rfl) (by kernel_rfl)
            clear hr_
            go_simp; first | done | with_reducible rfl | omega
          simp only [Act.put, planVG, List.setIfInBounds_toArray, List.set_cons_zero, List.set_cons_succ, List.getElem?_cons_zero, List.getElem?_cons_succ]
          refine ⟨?_, ?_⟩
          · as_aux_lemma =>
            intro y_ hS_ hO_ hD
            clear hS_ hO_ hD
            refine s_gen (V := .bool true) [.bool true, .bool true] (by kernel_rfl) (by kernel_rfl) (by kernel_rfl) ?_
            intro r_ hr_
            have o0_ : r_ (.tmp 90) = .bool true := op_at hr_ 0 (by kernel_rfl) (by kernel_rfl)
            have o1_ : r_ (.tmp 91) = .bool true := op_at hr_ 1 (by kernel_rfl) (by kernel_rfl)
            clear hr_
            go_simp; first | done | with_reducible rfl | omega
          simp only [Act.put, planVG, List.setIfInBounds_toArray, List.set_cons_zero, List.set_cons_succ, List.getElem?_cons_zero, List.getElem?_cons_succ]
          refine ⟨?_, ?_⟩
          · as_aux_lemma =>
            intro y_ hS_ hO_ hD
            clear hS_ hO_ hD
            refine s_gen (V := .bool true) [.bool true, .bool true, .bool false] (by kernel_rfl) (by kernel_rfl) (by kernel_rfl) ?_
            intro r_ hr_
            have o0_ : r_ (.tmp 89) = .bool true := op_at hr_ 0 (by kernel_rfl) (by kernel_rfl)
            have o1_ : r_ (.tmp 92) = .bool true := op_at hr_ 1 (by kernel_rfl) (by kernel_rfl)
            have o2_ : r_ (.const (.bool false)) = .bool false := op_at hr_ 2 (by kernel_rfl) (by kernel_rfl)
            clear hr_
            go_simp; first | done | with_reducible rfl | omega
          simp only [Act.put, planVG, List.setIfInBounds_toArray, List.set_cons_zero, List.set_cons_succ, List.getElem?_cons_zero, List.getElem?_cons_succ]
          refine ⟨?_, ?_⟩
          · as_aux_lemma =>
            intro y_ hS_ hO_ hD
            clear hS_ hO_ hD
            refine s_gen (V := .bool true) [.bool true] (by kernel_rfl) (by kernel_rfl) (by kernel_rfl) ?_
            intro r_ hr_
            have o0_ : r_ (.tmp 93) = .bool true := op_at hr_ 0 (by kernel_rfl) (by kernel_rfl)
            clear hr_
            go_simp; first | done | with_reducible rfl | omega
          simp only [Act.put, planVG, List.setIfInBounds_toArray, List.set_cons_zero, List.set_cons_succ, List.getElem?_cons_zero, List.getElem?_cons_succ]
          refine ⟨?_, ?_⟩
          · as_aux_lemma =>
            intro y_ hS_ hO_ hD
            have Q := ((hS_ (by rfl)).2.2.1).cell
            have q0 := Q 0 _ rfl
            have q1 := Q 1 _ rfl
            have q2 := Q 2 _ rfl
            have q3 := Q 3 _ rfl
            have q4 := Q 4 _ rfl
            clear Q hS_ hO_ hD
            refine s_gen (V := termV x A) [.pointer (some ⟨w.heap.size, 0, none⟩)] (by kernel_rfl) (by kernel_rfl) (by kernel_rfl) ?_
            intro r_ hr_
            have o0_ : r_ (.tmp 3) = .pointer (some ⟨w.heap.size, 0, none⟩) := op_at hr_ 0 (by kernel_rfl) (by kernel_rfl)
            clear hr_
            go_simp; first | done | with_reducible rfl
          simp only [Act.put, planVG, List.setIfInBounds_toArray, List.set_cons_zero, List.set_cons_succ, List.getElem?_cons_zero, List.getElem?_cons_succ]
          refine ⟨?_, ?_⟩
          · as_aux_lemma =>
            intro y_ hS_ hO_ hD
            have Q := ((hS_ (by rfl)).2.2.2.1).cell
            have q0 := Q 0 _ rfl
            have q1 := Q 1 _ rfl
            have q2 := Q 2 _ rfl
            have q3 := Q 3 _ rfl
            have q4 := Q 4 _ rfl
            clear Q hS_ hO_ hD
            refine s_gen (V := termV y B) [.pointer (some ⟨w.heap.size + 1, 0, none⟩)] (by kernel_rfl) (by kernel_rfl) (by kernel_rfl) ?_
            intro r_ hr_
            have o0_ : r_ (.tmp 4) = .pointer (some ⟨w.heap.size + 1, 0, none⟩) := op_at hr_ 0 (by kernel_rfl) (by kernel_rfl)
            clear hr_
            go_simp; first | done | with_reducible rfl
          simp only [Act.put, planVG, List.setIfInBounds_toArray, List.set_cons_zero, List.set_cons_succ, List.getElem?_cons_zero, List.getElem?_cons_succ]
          refine ⟨?_, ?_⟩
          · as_aux_lemma =>
            intro y_ hS_ hO_ hD
            try clear hS
            clear hS_ hO_ hD
            refine s_gcall (V := .int .i64 (c)) [.func (.func 51) #[] #[], termV x A, termV y B] ?_ ?_ (by kernel_rfl) (by kernel_rfl) (by kernel_rfl) ?_ ?_
            rotate_left 2
            · intro r_ hr_
              have o0_ : r_ (.func 51) = .func (.func 51) #[] #[] := op_at hr_ 0 (by kernel_rfl) (by kernel_rfl)
              have o1_ : r_ (.tmp 95) = termV x A := op_at hr_ 1 (by kernel_rfl) (by kernel_rfl)
              have o2_ : r_ (.tmp 96) = termV y B := op_at hr_ 2 (by kernel_rfl) (by kernel_rfl)
              clear hr_
              go_simp; first | done | with_reducible rfl | (constructor <;> with_reducible rfl)
            · refine H5.out _
          simp only [Act.put, planVG, List.setIfInBounds_toArray, List.set_cons_zero, List.set_cons_succ, List.getElem?_cons_zero, List.getElem?_cons_succ]
          refine ⟨?_, ?_⟩
          · as_aux_lemma =>
            intro y_ hS_ hO_ hD
            have Q := ((hS_ (by rfl)).2.2.2.2.1).cell
            have q0 := Q 0 _ rfl
            have q1 := Q 1 _ rfl
            have q2 := Q 2 _ rfl
            have q3 := Q 3 _ rfl
            have q4 := Q 4 _ rfl
            clear Q hS_ hO_ hD
            refine s_gen (V := termV (x + d) A) [.pointer (some ⟨v2_2, 0, none⟩)] (by kernel_rfl) (by kernel_rfl) (by kernel_rfl) ?_
            intro r_ hr_
            have o0_ : r_ (.tmp 7) = .pointer (some ⟨v2_2, 0, none⟩) := op_at hr_ 0 (by kernel_rfl) (by kernel_rfl)
            clear hr_
            go_simp; first | done | with_reducible rfl
          simp only [Act.put, planVG, List.setIfInBounds_toArray, List.set_cons_zero, List.set_cons_succ, List.getElem?_cons_zero, List.getElem?_cons_succ]
          refine ⟨?_, ?_⟩
          · as_aux_lemma =>
            intro y_ hS_ hO_ hD
            have Q := ((hS_ (by rfl)).2.2.2.2.2.1).cell
            have q0 := Q 0 _ rfl
            have q1 := Q 1 _ rfl
            have q2 := Q 2 _ rfl
            have q3 := Q 3 _ rfl
            have q4 := Q 4 _ rfl
            clear Q hS_ hO_ hD
            refine s_gen (V := termV (y + d) B) [.pointer (some ⟨v2_3, 0, none⟩)] (by kernel_rfl) (by kernel_rfl) (by kernel_rfl) ?_
            intro r_ hr_
            have o0_ : r_ (.tmp 8) = .pointer (some ⟨v2_3, 0, none⟩) := op_at hr_ 0 (by kernel_rfl) (by kernel_rfl)
            clear hr_
            go_simp; first | done | with_reducible rfl
          simp only [Act.put, planVG, List.setIfInBounds_toArray, List.set_cons_zero, List.set_cons_succ, List.getElem?_cons_zero, List.getElem?_cons_succ]
          refine ⟨?_, ?_⟩
          · as_aux_lemma =>
            intro y_ hS_ hO_ hD
            try clear hS
            clear hS_ hO_ hD
            refine s_gcall (V := .int .i64 (c)) [.func (.func 51) #[] #[], termV (x + d) A, termV (y + d) B] ?_ ?_ (by kernel_rfl) (by kernel_rfl) (by kernel_rfl) ?_ ?_
            rotate_left 2
            · intro r_ hr_
              have o0_ : r_ (.func 51) = .func (.func 51) #[] #[] := op_at hr_ 0 (by kernel_rfl) (by kernel_rfl)
              have o1_ : r_ (.tmp 98) = termV (x + d) A := op_at hr_ 1 (by kernel_rfl) (by kernel_rfl)
              have o2_ : r_ (.tmp 99) = termV (y + d) B := op_at hr_ 2 (by kernel_rfl) (by kernel_rfl)
              clear hr_
              go_simp; first | done | with_reducible rfl | (constructor <;> with_reducible rfl)
            · refine H6.out _
          simp only [Act.put, planVG, List.setIfInBounds_toArray, List.set_cons_zero, List.set_cons_succ, List.getElem?_cons_zero, List.getElem?_cons_succ]
          refine ⟨?_, ?_⟩
          · as_aux_lemma =>
            intro y_ hS_ hO_ hD
            clear hS_ hO_ hD
            refine s_gen (V := .bool true) [.int .i64 (c), .int .i64 (c)] (by kernel_rfl) (by kernel_rfl) (by kernel_rfl) ?_
            intro r_ hr_
            have o0_ : r_ (.tmp 97) = .int .i64 (c) := op_at hr_ 0 (by kernel_rfl) (by kernel_rfl)
            have o1_ : r_ (.tmp 100) = .int .i64 (c) := op_at hr_ 1 (by kernel_rfl) (by kernel_rfl)
            clear hr_
            go_simp; first | done | with_reducible rfl | omega
          simp only [Act.put, planVG, List.setIfInBounds_toArray, List.set_cons_zero, List.set_cons_succ, List.getElem?_cons_zero, List.getElem?_cons_succ]
          refine ⟨?_, ?_⟩
          · as_aux_lemma =>
            intro y_ hS_ hO_ hD
            clear hS_ hO_ hD
            refine s_gen (V := .bool true) [.bool true, .bool true, .bool false] (by kernel_rfl) (by kernel_rfl) (by kernel_rfl) ?_
            intro r_ hr_
            have o0_ : r_ (.tmp 94) = .bool true := op_at hr_ 0 (by kernel_rfl) (by kernel_rfl)
            have o1_ : r_ (.tmp 101) = .bool true := op_at hr_ 1 (by kernel_rfl) (by kernel_rfl)
            have o2_ : r_ (.const (.bool false)) = .bool false := op_at hr_ 2 (by kernel_rfl) (by kernel_rfl)
            clear hr_
            go_simp; first | done | with_reducible rfl | omega
          simp only [Act.put, planVG, List.setIfInBounds_toArray, List.set_cons_zero, List.set_cons_succ, List.getElem?_cons_zero, List.getElem?_cons_succ]
          refine ⟨?_, ?_⟩
          · as_aux_lemma =>
            intro y_ hS_ hO_ hD
            clear hS_ hO_ hD
            refine s_gen (V := .bool true) [.bool true] (by kernel_rfl) (by kernel_rfl) (by kernel_rfl) ?_
            intro r_ hr_
            have o0_ : r_ (.tmp 102) = .bool true := op_at hr_ 0 (by kernel_rfl) (by kernel_rfl)
            clear hr_
            go_simp; first | done | with_reducible rfl | omega
          simp only [Act.put, planVG, List.setIfInBounds_toArray, List.set_cons_zero, List.set_cons_succ, List.getElem?_cons_zero, List.getElem?_cons_succ]
          refine ⟨?_, ?_⟩
          · as_aux_lemma =>
            intro y_ hS_ hO_ hD
            try clear hS
            clear hS_ hO_ hD
            refine s_gcall (V := .bool true) [.func (.func 50) #[] #[]] ?_ ?_ (by kernel_rfl) (by kernel_rfl) (by kernel_rfl) ?_ ?_
            rotate_left 2
            · intro r_ hr_
              have o0_ : r_ (.func 50) = .func (.func 50) #[] #[] := op_at hr_ 0 (by kernel_rfl) (by kernel_rfl)
              clear hr_
              go_simp; first | done | with_reducible rfl | (constructor <;> with_reducible rfl)
            · refine goes17_any _
          simp only [Act.put, planVG, List.setIfInBounds_toArray, List.set_cons_zero, List.set_cons_succ, List.getElem?_cons_zero, List.getElem?_cons_succ]
          refine ⟨?_, ?_⟩
          · as_aux_lemma =>
            intro y_ hS_ hO_ hD
            clear hS_ hO_ hD
            refine s_gen (V := .bool true) [.bool true, .bool true, .bool false] (by kernel_rfl) (by kernel_rfl) (by kernel_rfl) ?_
            intro r_ hr_
            have o0_ : r_ (.tmp 103) = .bool true := op_at hr_ 0 (by kernel_rfl) (by kernel_rfl)
            have o1_ : r_ (.tmp 104) = .bool true := op_at hr_ 1 (by kernel_rfl) (by kernel_rfl)
            have o2_ : r_ (.const (.bool false)) = .bool false := op_at hr_ 2 (by kernel_rfl) (by kernel_rfl)
            clear hr_
            go_simp; first | done | with_reducible rfl | omega
          simp only [Act.put, planVG, List.setIfInBounds_toArray, List.set_cons_zero, List.set_cons_succ, List.getElem?_cons_zero, List.getElem?_cons_succ]
          refine ⟨?_, ?_⟩
          · as_aux_lemma =>
            intro y_ hS_ hO_ hD
            clear hS_ hO_ hD
            refine s_gen (V := .bool true) [.bool true] (by kernel_rfl) (by kernel_rfl) (by kernel_rfl) ?_
            intro r_ hr_
            have o0_ : r_ (.tmp 105) = .bool true := op_at hr_ 0 (by kernel_rfl) (by kernel_rfl)
            clear hr_
            go_simp; first | done | with_reducible rfl | omega
          simp only [Act.put, planVG, List.setIfInBounds_toArray, List.set_cons_zero, List.set_cons_succ, List.getElem?_cons_zero, List.getElem?_cons_succ]
          as_aux_lemma =>
            intro w7 hS hF hD_
            change wpList _ _ _ _ _ _
            replace hS := sg_no (by decide) hS
            obtain ⟨hk, hZ7, X1, X2, Bv2_2, Bv2_3, Bv4_6, Bv4_7, X3, X4⟩ := hS
            clear hF hD_
            clear ρ
            have hz_w7 := hk.size
            have X1l := X1.lt
            have X1f := X1.free
            have X1l1 : w.heap.size < w7.heap.size + 1 := by omega
            have X1l2 : w.heap.size < w7.heap.size + 1 + 1 := by omega
            have X1l3 : w.heap.size < w7.heap.size + 1 + 1 + 1 := by omega
            have X10 := X1.cell 0 _ rfl
            have X11 := X1.cell 1 _ rfl
            have X12 := X1.cell 2 _ rfl
            have X13 := X1.cell 3 _ rfl
            have X14 := X1.cell 4 _ rfl
            have X2l := X2.lt
            have X2f := X2.free
            have X2l1 : w.heap.size + 1 < w7.heap.size + 1 := by omega
            have X2l2 : w.heap.size + 1 < w7.heap.size + 1 + 1 := by omega
            have X2l3 : w.heap.size + 1 < w7.heap.size + 1 + 1 + 1 := by omega
            have X20 := X2.cell 0 _ rfl
            have X21 := X2.cell 1 _ rfl
            have X22 := X2.cell 2 _ rfl
            have X23 := X2.cell 3 _ rfl
            have X24 := X2.cell 4 _ rfl
            have Bv2_2l := Bv2_2.lt
            have Bv2_2f := Bv2_2.free
            have Bv2_2l1 : v2_2 < w7.heap.size + 1 := by omega
            have Bv2_2l2 : v2_2 < w7.heap.size + 1 + 1 := by omega
            have Bv2_2l3 : v2_2 < w7.heap.size + 1 + 1 + 1 := by omega
            have Bv2_20 := Bv2_2.cell 0 _ rfl
            have Bv2_21 := Bv2_2.cell 1 _ rfl
            have Bv2_22 := Bv2_2.cell 2 _ rfl
            have Bv2_23 := Bv2_2.cell 3 _ rfl
            have Bv2_24 := Bv2_2.cell 4 _ rfl
            have Bv2_3l := Bv2_3.lt
            have Bv2_3f := Bv2_3.free
            have Bv2_3l1 : v2_3 < w7.heap.size + 1 := by omega
            have Bv2_3l2 : v2_3 < w7.heap.size + 1 + 1 := by omega
            have Bv2_3l3 : v2_3 < w7.heap.size + 1 + 1 + 1 := by omega
            have Bv2_30 := Bv2_3.cell 0 _ rfl
            have Bv2_31 := Bv2_3.cell 1 _ rfl
            have Bv2_32 := Bv2_3.cell 2 _ rfl
            have Bv2_33 := Bv2_3.cell 3 _ rfl
            have Bv2_34 := Bv2_3.cell 4 _ rfl
            have Bv4_6l := Bv4_6.lt
            have Bv4_6f := Bv4_6.free
            have Bv4_6l1 : v4_6 < w7.heap.size + 1 := by omega
            have Bv4_6l2 : v4_6 < w7.heap.size + 1 + 1 := by omega
            have Bv4_6l3 : v4_6 < w7.heap.size + 1 + 1 + 1 := by omega
            have Bv4_60 := Bv4_6.cell 0 _ rfl
            have Bv4_61 := Bv4_6.cell 1 _ rfl
            have Bv4_62 := Bv4_6.cell 2 _ rfl
            have Bv4_63 := Bv4_6.cell 3 _ rfl
            have Bv4_64 := Bv4_6.cell 4 _ rfl
            have Bv4_7l := Bv4_7.lt
            have Bv4_7f := Bv4_7.free
            have Bv4_7l1 : v4_7 < w7.heap.size + 1 := by omega
            have Bv4_7l2 : v4_7 < w7.heap.size + 1 + 1 := by omega
            have Bv4_7l3 : v4_7 < w7.heap.size + 1 + 1 + 1 := by omega
            have Bv4_70 := Bv4_7.cell 0 _ rfl
            have Bv4_71 := Bv4_7.cell 1 _ rfl
            have Bv4_72 := Bv4_7.cell 2 _ rfl
            have Bv4_73 := Bv4_7.cell 3 _ rfl
            have Bv4_74 := Bv4_7.cell 4 _ rfl
            have X3l := X3.lt
            have X3f := X3.free
            have X3l1 : w5.heap.size < w7.heap.size + 1 := by omega
            have X3l2 : w5.heap.size < w7.heap.size + 1 + 1 := by omega
            have X3l3 : w5.heap.size < w7.heap.size + 1 + 1 + 1 := by omega
            have X30 := X3.cell 0 _ rfl
            have X31 := X3.cell 1 _ rfl
            have X32 := X3.cell 2 _ rfl
            have X33 := X3.cell 3 _ rfl
            have X34 := X3.cell 4 _ rfl
            have X4l := X4.lt
            have X4f := X4.free
            have X4l1 : w6.heap.size < w7.heap.size + 1 := by omega
            have X4l2 : w6.heap.size < w7.heap.size + 1 + 1 := by omega
            have X4l3 : w6.heap.size < w7.heap.size + 1 + 1 + 1 := by omega
            have X40 := X4.cell 0 _ rfl
            have X41 := X4.cell 1 _ rfl
            have X42 := X4.cell 2 _ rfl
            have X43 := X4.cell 3 _ rfl
            have X44 := X4.cell 4 _ rfl
            go_wp2
            go_ret
            exact ⟨rfl, (by refine Kept.below ?_; repeat (first | with_reducible exact hk | with_reducible exact Kept.refl _ | with_reducible refine Kept.alloc ?_ _ | with_reducible refine Kept.drew ?_ | with_reducible refine Kept.setCell ?_ (by simp only [World.size_alloc, World.size_setCell, World.size_drew]; omega) _))⟩

theorem MagScale_walk {x0 y0 d : Int} {A B : Nat} (hA : W256 A) (hB : W256 B) (rd : -32768 ≤ d ∧ d ≤ 32767) (w : World) :
    Calls Try.prog 10 #[termV x0 A, termV y0 B, .int .i16 d] w fun e w' => e = .returned (.bool true) ∧ Below w.heap.size w w' := by
  obtain ⟨x1, m1⟩ : ∃ x1, (if 1073741824 < x0 then 1073741824 else x0) = x1 := ⟨_, rfl⟩
  obtain ⟨x, m2⟩ : ∃ x, (if -1073741824 < x1 then x1 else -1073741824) = x := ⟨_, rfl⟩
  obtain ⟨y1, m3⟩ : ∃ y1, (if 1073741824 < y0 then 1073741824 else y0) = y1 := ⟨_, rfl⟩
  obtain ⟨y, m4⟩ : ∃ y, (if -1073741824 < y1 then y1 else -1073741824) = y := ⟨_, rfl⟩
  have rx : -1073741824 ≤ x ∧ x ≤ 1073741824 := by rw [← m2, ← m1]; split <;> (try split) <;> omega
  have ry : -1073741824 ≤ y ∧ y ≤ 1073741824 := by rw [← m4, ← m3]; split <;> (try split) <;> omega
  have ex : expI x = x := expI_id (by omega) (by omega)
  have ey : expI y = y := expI_id (by omega) (by omega)
  have fx : expI (x + d) = x + d := expI_id (by omega) (by omega)
  have fy : expI (y + d) = y + d := expI_id (by omega) (by omega)
  have s1 := fun w => magSum_any (x := x) (y := y) hA hB w
  have s2 := fun w => magSum_any (x := x + d) (y := y + d) hA hB w
  have s5 := fun w => magCmp_any (x := x) (y := y) hA hB w
  have s6 := fun w => magCmp_any (x := x + d) (y := y + d) hA hB w
  rw [fx, fy, level_add, show levelI x A y B + d + 1 = levelI x A y B + 1 + d by omega, side_add, side_add] at s2
  rw [ex, ey] at s1 s5
  rw [fx, fy, cmpT_add] at s6
  have hr := level_range A B (show -1099511627776 ≤ x ∧ x ≤ 1099511627776 by omega) (show -1099511627776 ≤ y ∧ y ≤ 1099511627776 by omega)
  by_cases h : cmpT x A y B < 0
  · have d1 := fun w => magDiff_1 (x := x) (y := y) hA hB rfl (by rw [ex, ey]; exact h) w
    have d2 := fun w => magDiff_1 (x := x + d) (y := y + d) hA hB rfl (by rw [fx, fy, cmpT_add]; exact h) w
    rw [ex, ey, level_turn] at d1
    rw [fx, fy, level_add, side_add, side_add, level_turn] at d2
    exact MagScale_1 hA hB (add256_w _ _) (sub256_w _ _) m1 m2 m3 m4 rx ry rd (by omega) (by omega) s1 s2 d1 d2 s5 s6 w
  · have d1 := fun w => magDiff_0 (x := x) (y := y) hA hB rfl (by rw [ex, ey]; exact h) w
    have d2 := fun w => magDiff_0 (x := x + d) (y := y + d) hA hB rfl (by rw [fx, fy, cmpT_add]; exact h) w
    rw [ex, ey] at d1
    rw [fx, fy, level_add, side_add, side_add] at d2
    exact MagScale_0 hA hB (add256_w _ _) (sub256_w _ _) m1 m2 m3 m4 rx ry rd (by omega) (by omega) s1 s2 d1 d2 s5 s6 w
end Go.Proofs.Ythpmbfdbknikcaa
