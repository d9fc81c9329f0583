/- The walk of WideOrder. -/
import Derived.Test.YtohlhmicolnmbaaLaw02
import Derived.Test.YtohlhmicolnmbaaRegionN
set_option linter.unusedVariables false
set_option linter.unusedSimpArgs false
namespace Go.Proofs.Ytohlhmicolnmbaa
open Go.RowKit

set_option maxRecDepth 100000 in
set_option maxHeartbeats 8000000 in
theorem WideOrder_lt1 {A B C X Y : Nat} (hA : W256 A) (hB : W256 B) (hC : W256 C) (hX : W128 X) (hY : W128 Y) (h : A < B) (hz : B ≤ C) (w : World) :
    Calls Try.prog 15 #[wideV A, wideV B, wideV C, bitsV X, bitsV Y] w fun e w' => e = .returned (.bool true) ∧ Below w.heap.size w w' := by
  have hk := Kept.refl w
  have f1 := cmp_lt h
  have f2 := cmp_gt h
  have f3 := cmp_le.2 hz
  have f4 := cmp_le.2 (Nat.le_trans (Nat.le_of_lt h) hz)
  have f5 := lt_true h
  have f6 := eqN_no hA hB (Nat.ne_of_lt h)
  clear h hz
  go_enter Try.func15, Try.ntmps15
  go_wp2
  refine wp_region_num 9 (fun W' => Kept w.heap.size w W' ∧ Box W' (w.heap.size) #[.int .u64 (limb 0 A), .int .u64 (limb 1 A), .int .u64 (limb 2 A), .int .u64 (limb 3 A)] ∧ Box W' (w.heap.size + 1) #[.int .u64 (limb 0 B), .int .u64 (limb 1 B), .int .u64 (limb 2 B), .int .u64 (limb 3 B)] ∧ Box W' (w.heap.size + 1 + 1) #[.int .u64 (limb 0 C), .int .u64 (limb 1 C), .int .u64 (limb 2 C), .int .u64 (limb 3 C)] ∧ Box W' (w.heap.size + 1 + 1 + 1) #[.int .u64 (limb 1 X), .int .u64 (limb 0 X)] ∧ Box W' (w.heap.size + 1 + 1 + 1 + 1) #[.int .u64 (limb 1 Y), .int .u64 (limb 0 Y)]) [.known (wideV A), .known (wideV B), .known (.int .i64 (cmpN A B)), .known (wideV B), .known (wideV A), .known (.int .i64 (cmpN B A)), .known (wideV B), .known (wideV C), .known (.int .i64 (cmpN B C))] (by kernel_rfl) (by kernel_rfl) (fun W W' h hb => ⟨(h.1).step hb, Box.call hb (h.2.1), Box.call hb (h.2.2.1), Box.call hb (h.2.2.2.1), Box.call hb (h.2.2.2.2.1), Box.call hb (h.2.2.2.2.2)⟩) (⟨(by repeat (first | with_reducible exact hk | with_reducible exact Kept.refl _ | with_reducible refine Kept.alloc ?_ _ | with_reducible refine Kept.drew ?_ | with_reducible refine Kept.setCell ?_ (by simp only [World.size_alloc, World.size_setCell, World.size_drew]; omega) _)), (by repeat (first | with_reducible assumption | with_reducible apply Box.set10 | with_reducible apply Box.set20 | with_reducible apply Box.set21 | with_reducible apply Box.set40 | with_reducible apply Box.set41 | with_reducible apply Box.set42 | with_reducible apply Box.set43 | with_reducible apply Box.set50 | with_reducible apply Box.set51 | with_reducible apply Box.set52 | with_reducible apply Box.set53 | with_reducible apply Box.set54 | with_reducible apply Box.drew | (with_reducible apply Box.newAt; (try simp only [World.size_alloc, World.size_setCell, World.size_drew]); done) | with_reducible apply Box.alloc | (with_reducible apply Box.other; case hne => ((try simp only [World.size_alloc, World.size_setCell, World.size_drew]); omega)))), (by repeat (first | with_reducible assumption | with_reducible apply Box.set10 | with_reducible apply Box.set20 | with_reducible apply Box.set21 | with_reducible apply Box.set40 | with_reducible apply Box.set41 | with_reducible apply Box.set42 | with_reducible apply Box.set43 | with_reducible apply Box.set50 | with_reducible apply Box.set51 | with_reducible apply Box.set52 | with_reducible apply Box.set53 | with_reducible apply Box.set54 | with_reducible apply Box.drew | (with_reducible apply Box.newAt; (try simp only [World.size_alloc, World.size_setCell, World.size_drew]); done) | with_reducible apply Box.alloc | (with_reducible apply Box.other; case hne => ((try simp only [World.size_alloc, World.size_setCell, World.size_drew]); omega)))), (by repeat (first | with_reducible assumption | with_reducible apply Box.set10 | with_reducible apply Box.set20 | with_reducible apply Box.set21 | with_reducible apply Box.set40 | with_reducible apply Box.set41 | with_reducible apply Box.set42 | with_reducible apply Box.set43 | with_reducible apply Box.set50 | with_reducible apply Box.set51 | with_reducible apply Box.set52 | with_reducible apply Box.set53 | with_reducible apply Box.set54 | with_reducible apply Box.drew | (with_reducible apply Box.newAt; (try simp only [World.size_alloc, World.size_setCell, World.size_drew]); done) | with_reducible apply Box.alloc | (with_reducible apply Box.other; case hne => ((try simp only [World.size_alloc, World.size_setCell, World.size_drew]); omega)))), (by repeat (first | with_reducible assumption | with_reducible apply Box.set10 | with_reducible apply Box.set20 | with_reducible apply Box.set21 | with_reducible apply Box.set40 | with_reducible apply Box.set41 | with_reducible apply Box.set42 | with_reducible apply Box.set43 | with_reducible apply Box.set50 | with_reducible apply Box.set51 | with_reducible apply Box.set52 | with_reducible apply Box.set53 | with_reducible apply Box.set54 | with_reducible apply Box.drew | (with_reducible apply Box.newAt; (try simp only [World.size_alloc, World.size_setCell, World.size_drew]); done) | with_reducible apply Box.alloc | (with_reducible apply Box.other; case hne => ((try simp only [World.size_alloc, World.size_setCell, World.size_drew]); omega)))), (by repeat (first | with_reducible assumption | with_reducible apply Box.set10 | with_reducible apply Box.set20 | with_reducible apply Box.set21 | with_reducible apply Box.set40 | with_reducible apply Box.set41 | with_reducible apply Box.set42 | with_reducible apply Box.set43 | with_reducible apply Box.set50 | with_reducible apply Box.set51 | with_reducible apply Box.set52 | with_reducible apply Box.set53 | with_reducible apply Box.set54 | with_reducible apply Box.drew | (with_reducible apply Box.newAt; (try simp only [World.size_alloc, World.size_setCell, World.size_drew]); done) | with_reducible apply Box.alloc | (with_reducible apply Box.other; case hne => ((try simp only [World.size_alloc, World.size_setCell, World.size_drew]); omega))))⟩) ?_
  clear hk
  intro ρ
  simp only [List.take_succ_cons, List.take_zero, List.drop_succ_cons, List.drop_zero]
  refine ⟨?_, ?_⟩
  · intro w hS hD
    have Q := (hS.2.1).cell
    have q0 := Q 0 _ rfl
    have q1 := Q 1 _ rfl
    have q2 := Q 2 _ rfl
    have q3 := Q 3 _ rfl
    clear Q hS hD
    refine n_val (by rfl) (by rfl) ?_
    go_simp; first | done | with_reducible rfl
  simp only [Act.put, planV, List.setIfInBounds_toArray, List.set_cons_zero, List.set_cons_succ, List.getElem?_cons_zero, List.getElem?_cons_succ]
  refine ⟨?_, ?_⟩
  · intro w hS hD
    have Q := (hS.2.2.1).cell
    have q0 := Q 0 _ rfl
    have q1 := Q 1 _ rfl
    have q2 := Q 2 _ rfl
    have q3 := Q 3 _ rfl
    clear Q hS hD
    refine n_val (by rfl) (by rfl) ?_
    go_simp; first | done | with_reducible rfl
  simp only [Act.put, planV, List.setIfInBounds_toArray, List.set_cons_zero, List.set_cons_succ, List.getElem?_cons_zero, List.getElem?_cons_succ]
  refine ⟨?_, ?_⟩
  · intro w hS hD
    clear hS hD
    refine n_call ?_ ?_ (by rfl) (by rfl) ?_ ?_
    rotate_left 2
    · go_simp; first | done | with_reducible rfl | (constructor <;> with_reducible rfl)
    · refine CmpW_at (IsWide.of hA) (IsWide.of hB) _
  simp only [Act.put, planV, List.setIfInBounds_toArray, List.set_cons_zero, List.set_cons_succ, List.getElem?_cons_zero, List.getElem?_cons_succ]
  refine ⟨?_, ?_⟩
  · intro w hS hD
    have Q := (hS.2.2.1).cell
    have q0 := Q 0 _ rfl
    have q1 := Q 1 _ rfl
    have q2 := Q 2 _ rfl
    have q3 := Q 3 _ rfl
    clear Q hS hD
    refine n_val (by rfl) (by rfl) ?_
    go_simp; first | done | with_reducible rfl
  simp only [Act.put, planV, List.setIfInBounds_toArray, List.set_cons_zero, List.set_cons_succ, List.getElem?_cons_zero, List.getElem?_cons_succ]
  refine ⟨?_, ?_⟩
  · intro w hS hD
    have Q := (hS.2.1).cell
    have q0 := Q 0 _ rfl
    have q1 := Q 1 _ rfl
    have q2 := Q 2 _ rfl
    have q3 := Q 3 _ rfl
    clear Q hS hD
    refine n_val (by rfl) (by rfl) ?_
    go_simp; first | done | with_reducible rfl
  simp only [Act.put, planV, List.setIfInBounds_toArray, List.set_cons_zero, List.set_cons_succ, List.getElem?_cons_zero, List.getElem?_cons_succ]
  refine ⟨?_, ?_⟩
  · intro w hS hD
    clear hS hD
    refine n_call ?_ ?_ (by rfl) (by rfl) ?_ ?_
    rotate_left 2
    · go_simp; first | done | with_reducible rfl | (constructor <;> with_reducible rfl)
    · refine CmpW_at (IsWide.of hB) (IsWide.of hA) _
  simp only [Act.put, planV, List.setIfInBounds_toArray, List.set_cons_zero, List.set_cons_succ, List.getElem?_cons_zero, List.getElem?_cons_succ]
  refine ⟨?_, ?_⟩
  · intro w hS hD
    have Q := (hS.2.2.1).cell
    have q0 := Q 0 _ rfl
    have q1 := Q 1 _ rfl
    have q2 := Q 2 _ rfl
    have q3 := Q 3 _ rfl
    clear Q hS hD
    refine n_val (by rfl) (by rfl) ?_
    go_simp; first | done | with_reducible rfl
  simp only [Act.put, planV, List.setIfInBounds_toArray, List.set_cons_zero, List.set_cons_succ, List.getElem?_cons_zero, List.getElem?_cons_succ]
  refine ⟨?_, ?_⟩
  · intro w hS hD
    have Q := (hS.2.2.2.1).cell
    have q0 := Q 0 _ rfl
    have q1 := Q 1 _ rfl
    have q2 := Q 2 _ rfl
    have q3 := Q 3 _ rfl
    clear Q hS hD
    refine n_val (by rfl) (by rfl) ?_
    go_simp; first | done | with_reducible rfl
  simp only [Act.put, planV, List.setIfInBounds_toArray, List.set_cons_zero, List.set_cons_succ, List.getElem?_cons_zero, List.getElem?_cons_succ]
  refine ⟨?_, ?_⟩
  · intro w hS hD
    clear hS hD
    refine n_call ?_ ?_ (by rfl) (by rfl) ?_ ?_
    rotate_left 2
    · go_simp; first | done | with_reducible rfl | (constructor <;> with_reducible rfl)
    · refine CmpW_at (IsWide.of hB) (IsWide.of hC) _
  simp only [Act.put, planV, List.setIfInBounds_toArray, List.set_cons_zero, List.set_cons_succ, List.getElem?_cons_zero, List.getElem?_cons_succ]
  intro w1 hS hF
  change wpList _ _ _ _ _ _
  obtain ⟨hk, Ba, Bb, Bc, Bx, By⟩ := hS
  clear hF
  clear ρ
  have hz_w1 := hk.size
  have Bal := Ba.lt
  have Baf := Ba.free
  have Bal1 : w.heap.size < w1.heap.size + 1 := by omega
  have Bal2 : w.heap.size < w1.heap.size + 1 + 1 := by omega
  have Bal3 : w.heap.size < w1.heap.size + 1 + 1 + 1 := by omega
  have Ba0 := Ba.cell 0 _ rfl
  have Ba1 := Ba.cell 1 _ rfl
  have Ba2 := Ba.cell 2 _ rfl
  have Ba3 := Ba.cell 3 _ rfl
  have Bbl := Bb.lt
  have Bbf := Bb.free
  have Bbl1 : w.heap.size + 1 < w1.heap.size + 1 := by omega
  have Bbl2 : w.heap.size + 1 < w1.heap.size + 1 + 1 := by omega
  have Bbl3 : w.heap.size + 1 < w1.heap.size + 1 + 1 + 1 := by omega
  have Bb0 := Bb.cell 0 _ rfl
  have Bb1 := Bb.cell 1 _ rfl
  have Bb2 := Bb.cell 2 _ rfl
  have Bb3 := Bb.cell 3 _ rfl
  have Bcl := Bc.lt
  have Bcf := Bc.free
  have Bcl1 : w.heap.size + 1 + 1 < w1.heap.size + 1 := by omega
  have Bcl2 : w.heap.size + 1 + 1 < w1.heap.size + 1 + 1 := by omega
  have Bcl3 : w.heap.size + 1 + 1 < w1.heap.size + 1 + 1 + 1 := by omega
  have Bc0 := Bc.cell 0 _ rfl
  have Bc1 := Bc.cell 1 _ rfl
  have Bc2 := Bc.cell 2 _ rfl
  have Bc3 := Bc.cell 3 _ rfl
  have Bxl := Bx.lt
  have Bxf := Bx.free
  have Bxl1 : w.heap.size + 1 + 1 + 1 < w1.heap.size + 1 := by omega
  have Bxl2 : w.heap.size + 1 + 1 + 1 < w1.heap.size + 1 + 1 := by omega
  have Bxl3 : w.heap.size + 1 + 1 + 1 < w1.heap.size + 1 + 1 + 1 := by omega
  have Bx0 := Bx.cell 0 _ rfl
  have Bx1 := Bx.cell 1 _ rfl
  have Byl := By.lt
  have Byf := By.free
  have Byl1 : w.heap.size + 1 + 1 + 1 + 1 < w1.heap.size + 1 := by omega
  have Byl2 : w.heap.size + 1 + 1 + 1 + 1 < w1.heap.size + 1 + 1 := by omega
  have Byl3 : w.heap.size + 1 + 1 + 1 + 1 < w1.heap.size + 1 + 1 + 1 := by omega
  have By0 := By.cell 0 _ rfl
  have By1 := By.cell 1 _ rfl
  go_wp2_with fail
  (with_reducible refine (SubW_at (IsWide.of hA) (IsWide.of hB) _).mono ?_)
  rintro e w2 ⟨rfl, hb⟩
  have Ba' : Box w2 (w.heap.size) #[.int .u64 (limb 0 A), .int .u64 (limb 1 A), .int .u64 (limb 2 A), .int .u64 (limb 3 A)] := Box.call hb (by repeat (first | with_reducible assumption | with_reducible apply Box.set10 | with_reducible apply Box.set20 | with_reducible apply Box.set21 | with_reducible apply Box.set40 | with_reducible apply Box.set41 | with_reducible apply Box.set42 | with_reducible apply Box.set43 | with_reducible apply Box.set50 | with_reducible apply Box.set51 | with_reducible apply Box.set52 | with_reducible apply Box.set53 | with_reducible apply Box.set54 | with_reducible apply Box.drew | (with_reducible apply Box.newAt; (try simp only [World.size_alloc, World.size_setCell, World.size_drew]); done) | with_reducible apply Box.alloc | (with_reducible apply Box.other; case hne => ((try simp only [World.size_alloc, World.size_setCell, World.size_drew]); omega))))
  have Bb' : Box w2 (w.heap.size + 1) #[.int .u64 (limb 0 B), .int .u64 (limb 1 B), .int .u64 (limb 2 B), .int .u64 (limb 3 B)] := Box.call hb (by repeat (first | with_reducible assumption | with_reducible apply Box.set10 | with_reducible apply Box.set20 | with_reducible apply Box.set21 | with_reducible apply Box.set40 | with_reducible apply Box.set41 | with_reducible apply Box.set42 | with_reducible apply Box.set43 | with_reducible apply Box.set50 | with_reducible apply Box.set51 | with_reducible apply Box.set52 | with_reducible apply Box.set53 | with_reducible apply Box.set54 | with_reducible apply Box.drew | (with_reducible apply Box.newAt; (try simp only [World.size_alloc, World.size_setCell, World.size_drew]); done) | with_reducible apply Box.alloc | (with_reducible apply Box.other; case hne => ((try simp only [World.size_alloc, World.size_setCell, World.size_drew]); omega))))
  have Bc' : Box w2 (w.heap.size + 1 + 1) #[.int .u64 (limb 0 C), .int .u64 (limb 1 C), .int .u64 (limb 2 C), .int .u64 (limb 3 C)] := Box.call hb (by repeat (first | with_reducible assumption | with_reducible apply Box.set10 | with_reducible apply Box.set20 | with_reducible apply Box.set21 | with_reducible apply Box.set40 | with_reducible apply Box.set41 | with_reducible apply Box.set42 | with_reducible apply Box.set43 | with_reducible apply Box.set50 | with_reducible apply Box.set51 | with_reducible apply Box.set52 | with_reducible apply Box.set53 | with_reducible apply Box.set54 | with_reducible apply Box.drew | (with_reducible apply Box.newAt; (try simp only [World.size_alloc, World.size_setCell, World.size_drew]); done) | with_reducible apply Box.alloc | (with_reducible apply Box.other; case hne => ((try simp only [World.size_alloc, World.size_setCell, World.size_drew]); omega))))
  have Bx' : Box w2 (w.heap.size + 1 + 1 + 1) #[.int .u64 (limb 1 X), .int .u64 (limb 0 X)] := Box.call hb (by repeat (first | with_reducible assumption | with_reducible apply Box.set10 | with_reducible apply Box.set20 | with_reducible apply Box.set21 | with_reducible apply Box.set40 | with_reducible apply Box.set41 | with_reducible apply Box.set42 | with_reducible apply Box.set43 | with_reducible apply Box.set50 | with_reducible apply Box.set51 | with_reducible apply Box.set52 | with_reducible apply Box.set53 | with_reducible apply Box.set54 | with_reducible apply Box.drew | (with_reducible apply Box.newAt; (try simp only [World.size_alloc, World.size_setCell, World.size_drew]); done) | with_reducible apply Box.alloc | (with_reducible apply Box.other; case hne => ((try simp only [World.size_alloc, World.size_setCell, World.size_drew]); omega))))
  have By' : Box w2 (w.heap.size + 1 + 1 + 1 + 1) #[.int .u64 (limb 1 Y), .int .u64 (limb 0 Y)] := Box.call hb (by repeat (first | with_reducible assumption | with_reducible apply Box.set10 | with_reducible apply Box.set20 | with_reducible apply Box.set21 | with_reducible apply Box.set40 | with_reducible apply Box.set41 | with_reducible apply Box.set42 | with_reducible apply Box.set43 | with_reducible apply Box.set50 | with_reducible apply Box.set51 | with_reducible apply Box.set52 | with_reducible apply Box.set53 | with_reducible apply Box.set54 | with_reducible apply Box.drew | (with_reducible apply Box.newAt; (try simp only [World.size_alloc, World.size_setCell, World.size_drew]); done) | with_reducible apply Box.alloc | (with_reducible apply Box.other; case hne => ((try simp only [World.size_alloc, World.size_setCell, World.size_drew]); omega))))
  have hk' : Kept w.heap.size w w2 := Kept.step (by repeat (first | with_reducible exact hk | with_reducible exact Kept.refl _ | with_reducible refine Kept.alloc ?_ _ | with_reducible refine Kept.drew ?_ | with_reducible refine Kept.setCell ?_ (by simp only [World.size_alloc, World.size_setCell, World.size_drew]; omega) _)) hb
  clear hk hb
  clear Ba Bal1 Bal2 Bal3 Baf Ba0 Ba1 Ba2 Ba3
  clear Bb Bbl1 Bbl2 Bbl3 Bbf Bb0 Bb1 Bb2 Bb3
  clear Bc Bcl1 Bcl2 Bcl3 Bcf Bc0 Bc1 Bc2 Bc3
  clear Bx Bxl1 Bxl2 Bxl3 Bxf Bx0 Bx1
  clear By Byl1 Byl2 Byl3 Byf By0 By1
  have Ba := Ba'
  clear Ba'
  have Bb := Bb'
  clear Bb'
  have Bc := Bc'
  clear Bc'
  have Bx := Bx'
  clear Bx'
  have By := By'
  clear By'
  have hk := hk'
  clear hk'
  have hz_w2 := hk.size
  have Bal := Ba.lt
  have Baf := Ba.free
  have Bal1 : w.heap.size < w2.heap.size + 1 := by omega
  have Bal2 : w.heap.size < w2.heap.size + 1 + 1 := by omega
  have Bal3 : w.heap.size < w2.heap.size + 1 + 1 + 1 := by omega
  have Ba0 := Ba.cell 0 _ rfl
  have Ba1 := Ba.cell 1 _ rfl
  have Ba2 := Ba.cell 2 _ rfl
  have Ba3 := Ba.cell 3 _ rfl
  have Bbl := Bb.lt
  have Bbf := Bb.free
  have Bbl1 : w.heap.size + 1 < w2.heap.size + 1 := by omega
  have Bbl2 : w.heap.size + 1 < w2.heap.size + 1 + 1 := by omega
  have Bbl3 : w.heap.size + 1 < w2.heap.size + 1 + 1 + 1 := by omega
  have Bb0 := Bb.cell 0 _ rfl
  have Bb1 := Bb.cell 1 _ rfl
  have Bb2 := Bb.cell 2 _ rfl
  have Bb3 := Bb.cell 3 _ rfl
  have Bcl := Bc.lt
  have Bcf := Bc.free
  have Bcl1 : w.heap.size + 1 + 1 < w2.heap.size + 1 := by omega
  have Bcl2 : w.heap.size + 1 + 1 < w2.heap.size + 1 + 1 := by omega
  have Bcl3 : w.heap.size + 1 + 1 < w2.heap.size + 1 + 1 + 1 := by omega
  have Bc0 := Bc.cell 0 _ rfl
  have Bc1 := Bc.cell 1 _ rfl
  have Bc2 := Bc.cell 2 _ rfl
  have Bc3 := Bc.cell 3 _ rfl
  have Bxl := Bx.lt
  have Bxf := Bx.free
  have Bxl1 : w.heap.size + 1 + 1 + 1 < w2.heap.size + 1 := by omega
  have Bxl2 : w.heap.size + 1 + 1 + 1 < w2.heap.size + 1 + 1 := by omega
  have Bxl3 : w.heap.size + 1 + 1 + 1 < w2.heap.size + 1 + 1 + 1 := by omega
  have Bx0 := Bx.cell 0 _ rfl
  have Bx1 := Bx.cell 1 _ rfl
  have Byl := By.lt
  have Byf := By.free
  have Byl1 : w.heap.size + 1 + 1 + 1 + 1 < w2.heap.size + 1 := by omega
  have Byl2 : w.heap.size + 1 + 1 + 1 + 1 < w2.heap.size + 1 + 1 := by omega
  have Byl3 : w.heap.size + 1 + 1 + 1 + 1 < w2.heap.size + 1 + 1 + 1 := by omega
  have By0 := By.cell 0 _ rfl
  have By1 := By.cell 1 _ rfl
  go_wp2_with fail
  (with_reducible refine (CmpW_at (IsWide.of hA) (IsWide.of hC) _).mono ?_)
  rintro e w3 ⟨rfl, hb⟩
  have Ba' : Box w3 (w.heap.size) #[.int .u64 (limb 0 A), .int .u64 (limb 1 A), .int .u64 (limb 2 A), .int .u64 (limb 3 A)] := Box.call hb (by repeat (first | with_reducible assumption | with_reducible apply Box.set10 | with_reducible apply Box.set20 | with_reducible apply Box.set21 | with_reducible apply Box.set40 | with_reducible apply Box.set41 | with_reducible apply Box.set42 | with_reducible apply Box.set43 | with_reducible apply Box.set50 | with_reducible apply Box.set51 | with_reducible apply Box.set52 | with_reducible apply Box.set53 | with_reducible apply Box.set54 | with_reducible apply Box.drew | (with_reducible apply Box.newAt; (try simp only [World.size_alloc, World.size_setCell, World.size_drew]); done) | with_reducible apply Box.alloc | (with_reducible apply Box.other; case hne => ((try simp only [World.size_alloc, World.size_setCell, World.size_drew]); omega))))
  have Bb' : Box w3 (w.heap.size + 1) #[.int .u64 (limb 0 B), .int .u64 (limb 1 B), .int .u64 (limb 2 B), .int .u64 (limb 3 B)] := Box.call hb (by repeat (first | with_reducible assumption | with_reducible apply Box.set10 | with_reducible apply Box.set20 | with_reducible apply Box.set21 | with_reducible apply Box.set40 | with_reducible apply Box.set41 | with_reducible apply Box.set42 | with_reducible apply Box.set43 | with_reducible apply Box.set50 | with_reducible apply Box.set51 | with_reducible apply Box.set52 | with_reducible apply Box.set53 | with_reducible apply Box.set54 | with_reducible apply Box.drew | (with_reducible apply Box.newAt; (try simp only [World.size_alloc, World.size_setCell, World.size_drew]); done) | with_reducible apply Box.alloc | (with_reducible apply Box.other; case hne => ((try simp only [World.size_alloc, World.size_setCell, World.size_drew]); omega))))
  have Bc' : Box w3 (w.heap.size + 1 + 1) #[.int .u64 (limb 0 C), .int .u64 (limb 1 C), .int .u64 (limb 2 C), .int .u64 (limb 3 C)] := Box.call hb (by repeat (first | with_reducible assumption | with_reducible apply Box.set10 | with_reducible apply Box.set20 | with_reducible apply Box.set21 | with_reducible apply Box.set40 | with_reducible apply Box.set41 | with_reducible apply Box.set42 | with_reducible apply Box.set43 | with_reducible apply Box.set50 | with_reducible apply Box.set51 | with_reducible apply Box.set52 | with_reducible apply Box.set53 | with_reducible apply Box.set54 | with_reducible apply Box.drew | (with_reducible apply Box.newAt; (try simp only [World.size_alloc, World.size_setCell, World.size_drew]); done) | with_reducible apply Box.alloc | (with_reducible apply Box.other; case hne => ((try simp only [World.size_alloc, World.size_setCell, World.size_drew]); omega))))
  have Bx' : Box w3 (w.heap.size + 1 + 1 + 1) #[.int .u64 (limb 1 X), .int .u64 (limb 0 X)] := Box.call hb (by repeat (first | with_reducible assumption | with_reducible apply Box.set10 | with_reducible apply Box.set20 | with_reducible apply Box.set21 | with_reducible apply Box.set40 | with_reducible apply Box.set41 | with_reducible apply Box.set42 | with_reducible apply Box.set43 | with_reducible apply Box.set50 | with_reducible apply Box.set51 | with_reducible apply Box.set52 | with_reducible apply Box.set53 | with_reducible apply Box.set54 | with_reducible apply Box.drew | (with_reducible apply Box.newAt; (try simp only [World.size_alloc, World.size_setCell, World.size_drew]); done) | with_reducible apply Box.alloc | (with_reducible apply Box.other; case hne => ((try simp only [World.size_alloc, World.size_setCell, World.size_drew]); omega))))
  have By' : Box w3 (w.heap.size + 1 + 1 + 1 + 1) #[.int .u64 (limb 1 Y), .int .u64 (limb 0 Y)] := Box.call hb (by repeat (first | with_reducible assumption | with_reducible apply Box.set10 | with_reducible apply Box.set20 | with_reducible apply Box.set21 | with_reducible apply Box.set40 | with_reducible apply Box.set41 | with_reducible apply Box.set42 | with_reducible apply Box.set43 | with_reducible apply Box.set50 | with_reducible apply Box.set51 | with_reducible apply Box.set52 | with_reducible apply Box.set53 | with_reducible apply Box.set54 | with_reducible apply Box.drew | (with_reducible apply Box.newAt; (try simp only [World.size_alloc, World.size_setCell, World.size_drew]); done) | with_reducible apply Box.alloc | (with_reducible apply Box.other; case hne => ((try simp only [World.size_alloc, World.size_setCell, World.size_drew]); omega))))
  have hk' : Kept w.heap.size w w3 := Kept.step (by repeat (first | with_reducible exact hk | with_reducible exact Kept.refl _ | with_reducible refine Kept.alloc ?_ _ | with_reducible refine Kept.drew ?_ | with_reducible refine Kept.setCell ?_ (by simp only [World.size_alloc, World.size_setCell, World.size_drew]; omega) _)) hb
  clear hk hb
  clear Ba Bal1 Bal2 Bal3 Baf Ba0 Ba1 Ba2 Ba3
  clear Bb Bbl1 Bbl2 Bbl3 Bbf Bb0 Bb1 Bb2 Bb3
  clear Bc Bcl1 Bcl2 Bcl3 Bcf Bc0 Bc1 Bc2 Bc3
  clear Bx Bxl1 Bxl2 Bxl3 Bxf Bx0 Bx1
  clear By Byl1 Byl2 Byl3 Byf By0 By1
  have Ba := Ba'
  clear Ba'
  have Bb := Bb'
  clear Bb'
  have Bc := Bc'
  clear Bc'
  have Bx := Bx'
  clear Bx'
  have By := By'
  clear By'
  have hk := hk'
  clear hk'
  have hz_w3 := hk.size
  have Bal := Ba.lt
  have Baf := Ba.free
  have Bal1 : w.heap.size < w3.heap.size + 1 := by omega
  have Bal2 : w.heap.size < w3.heap.size + 1 + 1 := by omega
  have Bal3 : w.heap.size < w3.heap.size + 1 + 1 + 1 := by omega
  have Ba0 := Ba.cell 0 _ rfl
  have Ba1 := Ba.cell 1 _ rfl
  have Ba2 := Ba.cell 2 _ rfl
  have Ba3 := Ba.cell 3 _ rfl
  have Bbl := Bb.lt
  have Bbf := Bb.free
  have Bbl1 : w.heap.size + 1 < w3.heap.size + 1 := by omega
  have Bbl2 : w.heap.size + 1 < w3.heap.size + 1 + 1 := by omega
  have Bbl3 : w.heap.size + 1 < w3.heap.size + 1 + 1 + 1 := by omega
  have Bb0 := Bb.cell 0 _ rfl
  have Bb1 := Bb.cell 1 _ rfl
  have Bb2 := Bb.cell 2 _ rfl
  have Bb3 := Bb.cell 3 _ rfl
  have Bcl := Bc.lt
  have Bcf := Bc.free
  have Bcl1 : w.heap.size + 1 + 1 < w3.heap.size + 1 := by omega
  have Bcl2 : w.heap.size + 1 + 1 < w3.heap.size + 1 + 1 := by omega
  have Bcl3 : w.heap.size + 1 + 1 < w3.heap.size + 1 + 1 + 1 := by omega
  have Bc0 := Bc.cell 0 _ rfl
  have Bc1 := Bc.cell 1 _ rfl
  have Bc2 := Bc.cell 2 _ rfl
  have Bc3 := Bc.cell 3 _ rfl
  have Bxl := Bx.lt
  have Bxf := Bx.free
  have Bxl1 : w.heap.size + 1 + 1 + 1 < w3.heap.size + 1 := by omega
  have Bxl2 : w.heap.size + 1 + 1 + 1 < w3.heap.size + 1 + 1 := by omega
  have Bxl3 : w.heap.size + 1 + 1 + 1 < w3.heap.size + 1 + 1 + 1 := by omega
  have Bx0 := Bx.cell 0 _ rfl
  have Bx1 := Bx.cell 1 _ rfl
  have Byl := By.lt
  have Byf := By.free
  have Byl1 : w.heap.size + 1 + 1 + 1 + 1 < w3.heap.size + 1 := by omega
  have Byl2 : w.heap.size + 1 + 1 + 1 + 1 < w3.heap.size + 1 + 1 := by omega
  have Byl3 : w.heap.size + 1 + 1 + 1 + 1 < w3.heap.size + 1 + 1 + 1 := by omega
  have By0 := By.cell 0 _ rfl
  have By1 := By.cell 1 _ rfl
  go_wp2
  refine wp_region_num 12 (fun W' => Kept w.heap.size w W' ∧ Box W' (w.heap.size) #[.int .u64 (limb 0 A), .int .u64 (limb 1 A), .int .u64 (limb 2 A), .int .u64 (limb 3 A)] ∧ Box W' (w.heap.size + 1) #[.int .u64 (limb 0 B), .int .u64 (limb 1 B), .int .u64 (limb 2 B), .int .u64 (limb 3 B)] ∧ Box W' (w.heap.size + 1 + 1) #[.int .u64 (limb 0 C), .int .u64 (limb 1 C), .int .u64 (limb 2 C), .int .u64 (limb 3 C)] ∧ Box W' (w.heap.size + 1 + 1 + 1) #[.int .u64 (limb 1 X), .int .u64 (limb 0 X)] ∧ Box W' (w.heap.size + 1 + 1 + 1 + 1) #[.int .u64 (limb 1 Y), .int .u64 (limb 0 Y)]) [.known (bitsV X), .known (wideV X), .known (bitsV Y), .known (wideV Y), .known (.int .i64 (cmpN X Y)), .known (bitsV X), .known (bitsV Y), .known (.int .i64 (cmpN X Y)), .known (.bool true), .known (.bool true), .known (.bool true), .known (.bool true)] (by kernel_rfl) (by kernel_rfl) (fun W W' h hb => ⟨(h.1).step hb, Box.call hb (h.2.1), Box.call hb (h.2.2.1), Box.call hb (h.2.2.2.1), Box.call hb (h.2.2.2.2.1), Box.call hb (h.2.2.2.2.2)⟩) (⟨(by repeat (first | with_reducible exact hk | with_reducible exact Kept.refl _ | with_reducible refine Kept.alloc ?_ _ | with_reducible refine Kept.drew ?_ | with_reducible refine Kept.setCell ?_ (by simp only [World.size_alloc, World.size_setCell, World.size_drew]; omega) _)), (by repeat (first | with_reducible assumption | with_reducible apply Box.set10 | with_reducible apply Box.set20 | with_reducible apply Box.set21 | with_reducible apply Box.set40 | with_reducible apply Box.set41 | with_reducible apply Box.set42 | with_reducible apply Box.set43 | with_reducible apply Box.set50 | with_reducible apply Box.set51 | with_reducible apply Box.set52 | with_reducible apply Box.set53 | with_reducible apply Box.set54 | with_reducible apply Box.drew | (with_reducible apply Box.newAt; (try simp only [World.size_alloc, World.size_setCell, World.size_drew]); done) | with_reducible apply Box.alloc | (with_reducible apply Box.other; case hne => ((try simp only [World.size_alloc, World.size_setCell, World.size_drew]); omega)))), (by repeat (first | with_reducible assumption | with_reducible apply Box.set10 | with_reducible apply Box.set20 | with_reducible apply Box.set21 | with_reducible apply Box.set40 | with_reducible apply Box.set41 | with_reducible apply Box.set42 | with_reducible apply Box.set43 | with_reducible apply Box.set50 | with_reducible apply Box.set51 | with_reducible apply Box.set52 | with_reducible apply Box.set53 | with_reducible apply Box.set54 | with_reducible apply Box.drew | (with_reducible apply Box.newAt; (try simp only [World.size_alloc, World.size_setCell, World.size_drew]); done) | with_reducible apply Box.alloc | (with_reducible apply Box.other; case hne => ((try simp only [World.size_alloc, World.size_setCell, World.size_drew]); omega)))), (by repeat (first | with_reducible assumption | with_reducible apply Box.set10 | with_reducible apply Box.set20 | with_reducible apply Box.set21 | with_reducible apply Box.set40 | with_reducible apply Box.set41 | with_reducible apply Box.set42 | with_reducible apply Box.set43 | with_reducible apply Box.set50 | with_reducible apply Box.set51 | with_reducible apply Box.set52 | with_reducible apply Box.set53 | with_reducible apply Box.set54 | with_reducible apply Box.drew | (with_reducible apply Box.newAt; (try simp only [World.size_alloc, World.size_setCell, World.size_drew]); done) | with_reducible apply Box.alloc | (with_reducible apply Box.other; case hne => ((try simp only [World.size_alloc, World.size_setCell, World.size_drew]); omega)))), (by repeat (first | with_reducible assumption | with_reducible apply Box.set10 | with_reducible apply Box.set20 | with_reducible apply Box.set21 | with_reducible apply Box.set40 | with_reducible apply Box.set41 | with_reducible apply Box.set42 | with_reducible apply Box.set43 | with_reducible apply Box.set50 | with_reducible apply Box.set51 | with_reducible apply Box.set52 | with_reducible apply Box.set53 | with_reducible apply Box.set54 | with_reducible apply Box.drew | (with_reducible apply Box.newAt; (try simp only [World.size_alloc, World.size_setCell, World.size_drew]); done) | with_reducible apply Box.alloc | (with_reducible apply Box.other; case hne => ((try simp only [World.size_alloc, World.size_setCell, World.size_drew]); omega)))), (by repeat (first | with_reducible assumption | with_reducible apply Box.set10 | with_reducible apply Box.set20 | with_reducible apply Box.set21 | with_reducible apply Box.set40 | with_reducible apply Box.set41 | with_reducible apply Box.set42 | with_reducible apply Box.set43 | with_reducible apply Box.set50 | with_reducible apply Box.set51 | with_reducible apply Box.set52 | with_reducible apply Box.set53 | with_reducible apply Box.set54 | with_reducible apply Box.drew | (with_reducible apply Box.newAt; (try simp only [World.size_alloc, World.size_setCell, World.size_drew]); done) | with_reducible apply Box.alloc | (with_reducible apply Box.other; case hne => ((try simp only [World.size_alloc, World.size_setCell, World.size_drew]); omega))))⟩) ?_
  clear hk
  clear Ba Bal1 Bal2 Bal3 Baf Ba0 Ba1 Ba2 Ba3
  clear Bb Bbl1 Bbl2 Bbl3 Bbf Bb0 Bb1 Bb2 Bb3
  clear Bc Bcl1 Bcl2 Bcl3 Bcf Bc0 Bc1 Bc2 Bc3
  clear Bx Bxl1 Bxl2 Bxl3 Bxf Bx0 Bx1
  clear By Byl1 Byl2 Byl3 Byf By0 By1
  intro ρ
  simp only [List.take_succ_cons, List.take_zero, List.drop_succ_cons, List.drop_zero]
  refine ⟨?_, ?_⟩
  · intro w hS hD
    have Q := (hS.2.2.2.2.1).cell
    have q0 := Q 0 _ rfl
    have q1 := Q 1 _ rfl
    clear Q hS hD
    refine n_val (by rfl) (by rfl) ?_
    go_simp; first | done | with_reducible rfl
  simp only [Act.put, planV, List.setIfInBounds_toArray, List.set_cons_zero, List.set_cons_succ, List.getElem?_cons_zero, List.getElem?_cons_succ]
  refine ⟨?_, ?_⟩
  · intro w hS hD
    clear hS hD
    refine n_call ?_ ?_ (by rfl) (by rfl) ?_ ?_
    rotate_left 2
    · go_simp; first | done | with_reducible rfl | (constructor <;> with_reducible rfl)
    · refine Of_at (IsBits.of hX) _
  simp only [Act.put, planV, List.setIfInBounds_toArray, List.set_cons_zero, List.set_cons_succ, List.getElem?_cons_zero, List.getElem?_cons_succ]
  refine ⟨?_, ?_⟩
  · intro w hS hD
    have Q := (hS.2.2.2.2.2).cell
    have q0 := Q 0 _ rfl
    have q1 := Q 1 _ rfl
    clear Q hS hD
    refine n_val (by rfl) (by rfl) ?_
    go_simp; first | done | with_reducible rfl
  simp only [Act.put, planV, List.setIfInBounds_toArray, List.set_cons_zero, List.set_cons_succ, List.getElem?_cons_zero, List.getElem?_cons_succ]
  refine ⟨?_, ?_⟩
  · intro w hS hD
    clear hS hD
    refine n_call ?_ ?_ (by rfl) (by rfl) ?_ ?_
    rotate_left 2
    · go_simp; first | done | with_reducible rfl | (constructor <;> with_reducible rfl)
    · refine Of_at (IsBits.of hY) _
  simp only [Act.put, planV, List.setIfInBounds_toArray, List.set_cons_zero, List.set_cons_succ, List.getElem?_cons_zero, List.getElem?_cons_succ]
  refine ⟨?_, ?_⟩
  · intro w hS hD
    clear hS hD
    refine n_call ?_ ?_ (by rfl) (by rfl) ?_ ?_
    rotate_left 2
    · go_simp; first | done | with_reducible rfl | (constructor <;> with_reducible rfl)
    · refine CmpW_at (IsWide.of (w128_256 hX)) (IsWide.of (w128_256 hY)) _
  simp only [Act.put, planV, List.setIfInBounds_toArray, List.set_cons_zero, List.set_cons_succ, List.getElem?_cons_zero, List.getElem?_cons_succ]
  refine ⟨?_, ?_⟩
  · intro w hS hD
    have Q := (hS.2.2.2.2.1).cell
    have q0 := Q 0 _ rfl
    have q1 := Q 1 _ rfl
    clear Q hS hD
    refine n_val (by rfl) (by rfl) ?_
    go_simp; first | done | with_reducible rfl
  simp only [Act.put, planV, List.setIfInBounds_toArray, List.set_cons_zero, List.set_cons_succ, List.getElem?_cons_zero, List.getElem?_cons_succ]
  refine ⟨?_, ?_⟩
  · intro w hS hD
    have Q := (hS.2.2.2.2.2).cell
    have q0 := Q 0 _ rfl
    have q1 := Q 1 _ rfl
    clear Q hS hD
    refine n_val (by rfl) (by rfl) ?_
    go_simp; first | done | with_reducible rfl
  simp only [Act.put, planV, List.setIfInBounds_toArray, List.set_cons_zero, List.set_cons_succ, List.getElem?_cons_zero, List.getElem?_cons_succ]
  refine ⟨?_, ?_⟩
  · intro w hS hD
    clear hS hD
    refine n_call ?_ ?_ (by rfl) (by rfl) ?_ ?_
    rotate_left 2
    · go_simp; first | done | with_reducible rfl | (constructor <;> with_reducible rfl)
    · refine Cmp_at (IsBits.of hX) (IsBits.of hY) _
  simp only [Act.put, planV, List.setIfInBounds_toArray, List.set_cons_zero, List.set_cons_succ, List.getElem?_cons_zero, List.getElem?_cons_succ]
  refine ⟨?_, ?_⟩
  · intro w hS hD
    clear hS hD
    refine n_val (by rfl) (by rfl) ?_
    go_simp; first | done | with_reducible rfl | rfl
  simp only [Act.put, planV, List.setIfInBounds_toArray, List.set_cons_zero, List.set_cons_succ, List.getElem?_cons_zero, List.getElem?_cons_succ]
  refine ⟨?_, ?_⟩
  · intro w hS hD
    clear hS hD
    refine n_val (by rfl) (by rfl) ?_
    go_simp; first | done | with_reducible rfl | rfl
  simp only [Act.put, planV, List.setIfInBounds_toArray, List.set_cons_zero, List.set_cons_succ, List.getElem?_cons_zero, List.getElem?_cons_succ]
  refine ⟨?_, ?_⟩
  · intro w hS hD
    clear hS hD
    refine n_call ?_ ?_ (by rfl) (by rfl) ?_ ?_
    rotate_left 2
    · go_simp; first | done | with_reducible rfl | (constructor <;> with_reducible rfl)
    · refine counts02_any _
  simp only [Act.put, planV, List.setIfInBounds_toArray, List.set_cons_zero, List.set_cons_succ, List.getElem?_cons_zero, List.getElem?_cons_succ]
  refine ⟨?_, ?_⟩
  · intro w hS hD
    clear hS hD
    refine n_val (by rfl) (by rfl) ?_
    go_simp; first | done | with_reducible rfl | rfl
  simp only [Act.put, planV, List.setIfInBounds_toArray, List.set_cons_zero, List.set_cons_succ, List.getElem?_cons_zero, List.getElem?_cons_succ]
  intro w4 hS hF
  change wpList _ _ _ _ _ _
  obtain ⟨hk, Ba, Bb, Bc, Bx, By⟩ := hS
  clear hF
  clear ρ
  have hz_w4 := hk.size
  have Bal := Ba.lt
  have Baf := Ba.free
  have Bal1 : w.heap.size < w4.heap.size + 1 := by omega
  have Bal2 : w.heap.size < w4.heap.size + 1 + 1 := by omega
  have Bal3 : w.heap.size < w4.heap.size + 1 + 1 + 1 := by omega
  have Ba0 := Ba.cell 0 _ rfl
  have Ba1 := Ba.cell 1 _ rfl
  have Ba2 := Ba.cell 2 _ rfl
  have Ba3 := Ba.cell 3 _ rfl
  have Bbl := Bb.lt
  have Bbf := Bb.free
  have Bbl1 : w.heap.size + 1 < w4.heap.size + 1 := by omega
  have Bbl2 : w.heap.size + 1 < w4.heap.size + 1 + 1 := by omega
  have Bbl3 : w.heap.size + 1 < w4.heap.size + 1 + 1 + 1 := by omega
  have Bb0 := Bb.cell 0 _ rfl
  have Bb1 := Bb.cell 1 _ rfl
  have Bb2 := Bb.cell 2 _ rfl
  have Bb3 := Bb.cell 3 _ rfl
  have Bcl := Bc.lt
  have Bcf := Bc.free
  have Bcl1 : w.heap.size + 1 + 1 < w4.heap.size + 1 := by omega
  have Bcl2 : w.heap.size + 1 + 1 < w4.heap.size + 1 + 1 := by omega
  have Bcl3 : w.heap.size + 1 + 1 < w4.heap.size + 1 + 1 + 1 := by omega
  have Bc0 := Bc.cell 0 _ rfl
  have Bc1 := Bc.cell 1 _ rfl
  have Bc2 := Bc.cell 2 _ rfl
  have Bc3 := Bc.cell 3 _ rfl
  have Bxl := Bx.lt
  have Bxf := Bx.free
  have Bxl1 : w.heap.size + 1 + 1 + 1 < w4.heap.size + 1 := by omega
  have Bxl2 : w.heap.size + 1 + 1 + 1 < w4.heap.size + 1 + 1 := by omega
  have Bxl3 : w.heap.size + 1 + 1 + 1 < w4.heap.size + 1 + 1 + 1 := by omega
  have Bx0 := Bx.cell 0 _ rfl
  have Bx1 := Bx.cell 1 _ rfl
  have Byl := By.lt
  have Byf := By.free
  have Byl1 : w.heap.size + 1 + 1 + 1 + 1 < w4.heap.size + 1 := by omega
  have Byl2 : w.heap.size + 1 + 1 + 1 + 1 < w4.heap.size + 1 + 1 := by omega
  have Byl3 : w.heap.size + 1 + 1 + 1 + 1 < w4.heap.size + 1 + 1 + 1 := by omega
  have By0 := By.cell 0 _ rfl
  have By1 := By.cell 1 _ rfl
  go_wp2
  go_ret
  exact ⟨rfl, (by refine Kept.below ?_; repeat (first | with_reducible exact hk | with_reducible exact Kept.refl _ | with_reducible refine Kept.alloc ?_ _ | with_reducible refine Kept.drew ?_ | with_reducible refine Kept.setCell ?_ (by simp only [World.size_alloc, World.size_setCell, World.size_drew]; omega) _))⟩

set_option maxRecDepth 100000 in
set_option maxHeartbeats 8000000 in
theorem WideOrder_lt2 {A B C X Y : Nat} (hA : W256 A) (hB : W256 B) (hC : W256 C) (hX : W128 X) (hY : W128 Y) (h : A < B) (hz : C < B) (w : World) :
    Calls Try.prog 15 #[wideV A, wideV B, wideV C, bitsV X, bitsV Y] w fun e w' => e = .returned (.bool true) ∧ Below w.heap.size w w' := by
  have hk := Kept.refl w
  have f1 := cmp_lt h
  have f2 := cmp_gt h
  have f3 := cmp_gt hz
  have f5 := lt_true h
  have f6 := eqN_no hA hB (Nat.ne_of_lt h)
  clear h hz
  go_enter Try.func15, Try.ntmps15
  go_wp2
  refine wp_region_num 9 (fun W' => Kept w.heap.size w W' ∧ Box W' (w.heap.size) #[.int .u64 (limb 0 A), .int .u64 (limb 1 A), .int .u64 (limb 2 A), .int .u64 (limb 3 A)] ∧ Box W' (w.heap.size + 1) #[.int .u64 (limb 0 B), .int .u64 (limb 1 B), .int .u64 (limb 2 B), .int .u64 (limb 3 B)] ∧ Box W' (w.heap.size + 1 + 1) #[.int .u64 (limb 0 C), .int .u64 (limb 1 C), .int .u64 (limb 2 C), .int .u64 (limb 3 C)] ∧ Box W' (w.heap.size + 1 + 1 + 1) #[.int .u64 (limb 1 X), .int .u64 (limb 0 X)] ∧ Box W' (w.heap.size + 1 + 1 + 1 + 1) #[.int .u64 (limb 1 Y), .int .u64 (limb 0 Y)]) [.known (wideV A), .known (wideV B), .known (.int .i64 (cmpN A B)), .known (wideV B), .known (wideV A), .known (.int .i64 (cmpN B A)), .known (wideV B), .known (wideV C), .known (.int .i64 (cmpN B C))] (by kernel_rfl) (by kernel_rfl) (fun W W' h hb => ⟨(h.1).step hb, Box.call hb (h.2.1), Box.call hb (h.2.2.1), Box.call hb (h.2.2.2.1), Box.call hb (h.2.2.2.2.1), Box.call hb (h.2.2.2.2.2)⟩) (⟨(by repeat (first | with_reducible exact hk | with_reducible exact Kept.refl _ | with_reducible refine Kept.alloc ?_ _ | with_reducible refine Kept.drew ?_ | with_reducible refine Kept.setCell ?_ (by simp only [World.size_alloc, World.size_setCell, World.size_drew]; omega) _)), (by repeat (first | with_reducible assumption | with_reducible apply Box.set10 | with_reducible apply Box.set20 | with_reducible apply Box.set21 | with_reducible apply Box.set40 | with_reducible apply Box.set41 | with_reducible apply Box.set42 | with_reducible apply Box.set43 | with_reducible apply Box.set50 | with_reducible apply Box.set51 | with_reducible apply Box.set52 | with_reducible apply Box.set53 | with_reducible apply Box.set54 | with_reducible apply Box.drew | (with_reducible apply Box.newAt; (try simp only [World.size_alloc, World.size_setCell, World.size_drew]); done) | with_reducible apply Box.alloc | (with_reducible apply Box.other; case hne => ((try simp only [World.size_alloc, World.size_setCell, World.size_drew]); omega)))), (by repeat (first | with_reducible assumption | with_reducible apply Box.set10 | with_reducible apply Box.set20 | with_reducible apply Box.set21 | with_reducible apply Box.set40 | with_reducible apply Box.set41 | with_reducible apply Box.set42 | with_reducible apply Box.set43 | with_reducible apply Box.set50 | with_reducible apply Box.set51 | with_reducible apply Box.set52 | with_reducible apply Box.set53 | with_reducible apply Box.set54 | with_reducible apply Box.drew | (with_reducible apply Box.newAt; (try simp only [World.size_alloc, World.size_setCell, World.size_drew]); done) | with_reducible apply Box.alloc | (with_reducible apply Box.other; case hne => ((try simp only [World.size_alloc, World.size_setCell, World.size_drew]); omega)))), (by repeat (first | with_reducible assumption | with_reducible apply Box.set10 | with_reducible apply Box.set20 | with_reducible apply Box.set21 | with_reducible apply Box.set40 | with_reducible apply Box.set41 | with_reducible apply Box.set42 | with_reducible apply Box.set43 | with_reducible apply Box.set50 | with_reducible apply Box.set51 | with_reducible apply Box.set52 | with_reducible apply Box.set53 | with_reducible apply Box.set54 | with_reducible apply Box.drew | (with_reducible apply Box.newAt; (try simp only [World.size_alloc, World.size_setCell, World.size_drew]); done) | with_reducible apply Box.alloc | (with_reducible apply Box.other; case hne => ((try simp only [World.size_alloc, World.size_setCell, World.size_drew]); omega)))), (by repeat (first | with_reducible assumption | with_reducible apply Box.set10 | with_reducible apply Box.set20 | with_reducible apply Box.set21 | with_reducible apply Box.set40 | with_reducible apply Box.set41 | with_reducible apply Box.set42 | with_reducible apply Box.set43 | with_reducible apply Box.set50 | with_reducible apply Box.set51 | with_reducible apply Box.set52 | with_reducible apply Box.set53 | with_reducible apply Box.set54 | with_reducible apply Box.drew | (with_reducible apply Box.newAt; (try simp only [World.size_alloc, World.size_setCell, World.size_drew]); done) | with_reducible apply Box.alloc | (with_reducible apply Box.other; case hne => ((try simp only [World.size_alloc, World.size_setCell, World.size_drew]); omega)))), (by repeat (first | with_reducible assumption | with_reducible apply Box.set10 | with_reducible apply Box.set20 | with_reducible apply Box.set21 | with_reducible apply Box.set40 | with_reducible apply Box.set41 | with_reducible apply Box.set42 | with_reducible apply Box.set43 | with_reducible apply Box.set50 | with_reducible apply Box.set51 | with_reducible apply Box.set52 | with_reducible apply Box.set53 | with_reducible apply Box.set54 | with_reducible apply Box.drew | (with_reducible apply Box.newAt; (try simp only [World.size_alloc, World.size_setCell, World.size_drew]); done) | with_reducible apply Box.alloc | (with_reducible apply Box.other; case hne => ((try simp only [World.size_alloc, World.size_setCell, World.size_drew]); omega))))⟩) ?_
  clear hk
  intro ρ
  simp only [List.take_succ_cons, List.take_zero, List.drop_succ_cons, List.drop_zero]
  refine ⟨?_, ?_⟩
  · intro w hS hD
    have Q := (hS.2.1).cell
    have q0 := Q 0 _ rfl
    have q1 := Q 1 _ rfl
    have q2 := Q 2 _ rfl
    have q3 := Q 3 _ rfl
    clear Q hS hD
    refine n_val (by rfl) (by rfl) ?_
    go_simp; first | done | with_reducible rfl
  simp only [Act.put, planV, List.setIfInBounds_toArray, List.set_cons_zero, List.set_cons_succ, List.getElem?_cons_zero, List.getElem?_cons_succ]
  refine ⟨?_, ?_⟩
  · intro w hS hD
    have Q := (hS.2.2.1).cell
    have q0 := Q 0 _ rfl
    have q1 := Q 1 _ rfl
    have q2 := Q 2 _ rfl
    have q3 := Q 3 _ rfl
    clear Q hS hD
    refine n_val (by rfl) (by rfl) ?_
    go_simp; first | done | with_reducible rfl
  simp only [Act.put, planV, List.setIfInBounds_toArray, List.set_cons_zero, List.set_cons_succ, List.getElem?_cons_zero, List.getElem?_cons_succ]
  refine ⟨?_, ?_⟩
  · intro w hS hD
    clear hS hD
    refine n_call ?_ ?_ (by rfl) (by rfl) ?_ ?_
    rotate_left 2
    · go_simp; first | done | with_reducible rfl | (constructor <;> with_reducible rfl)
    · refine CmpW_at (IsWide.of hA) (IsWide.of hB) _
  simp only [Act.put, planV, List.setIfInBounds_toArray, List.set_cons_zero, List.set_cons_succ, List.getElem?_cons_zero, List.getElem?_cons_succ]
  refine ⟨?_, ?_⟩
  · intro w hS hD
    have Q := (hS.2.2.1).cell
    have q0 := Q 0 _ rfl
    have q1 := Q 1 _ rfl
    have q2 := Q 2 _ rfl
    have q3 := Q 3 _ rfl
    clear Q hS hD
    refine n_val (by rfl) (by rfl) ?_
    go_simp; first | done | with_reducible rfl
  simp only [Act.put, planV, List.setIfInBounds_toArray, List.set_cons_zero, List.set_cons_succ, List.getElem?_cons_zero, List.getElem?_cons_succ]
  refine ⟨?_, ?_⟩
  · intro w hS hD
    have Q := (hS.2.1).cell
    have q0 := Q 0 _ rfl
    have q1 := Q 1 _ rfl
    have q2 := Q 2 _ rfl
    have q3 := Q 3 _ rfl
    clear Q hS hD
    refine n_val (by rfl) (by rfl) ?_
    go_simp; first | done | with_reducible rfl
  simp only [Act.put, planV, List.setIfInBounds_toArray, List.set_cons_zero, List.set_cons_succ, List.getElem?_cons_zero, List.getElem?_cons_succ]
  refine ⟨?_, ?_⟩
  · intro w hS hD
    clear hS hD
    refine n_call ?_ ?_ (by rfl) (by rfl) ?_ ?_
    rotate_left 2
    · go_simp; first | done | with_reducible rfl | (constructor <;> with_reducible rfl)
    · refine CmpW_at (IsWide.of hB) (IsWide.of hA) _
  simp only [Act.put, planV, List.setIfInBounds_toArray, List.set_cons_zero, List.set_cons_succ, List.getElem?_cons_zero, List.getElem?_cons_succ]
  refine ⟨?_, ?_⟩
  · intro w hS hD
    have Q := (hS.2.2.1).cell
    have q0 := Q 0 _ rfl
    have q1 := Q 1 _ rfl
    have q2 := Q 2 _ rfl
    have q3 := Q 3 _ rfl
    clear Q hS hD
    refine n_val (by rfl) (by rfl) ?_
    go_simp; first | done | with_reducible rfl
  simp only [Act.put, planV, List.setIfInBounds_toArray, List.set_cons_zero, List.set_cons_succ, List.getElem?_cons_zero, List.getElem?_cons_succ]
  refine ⟨?_, ?_⟩
  · intro w hS hD
    have Q := (hS.2.2.2.1).cell
    have q0 := Q 0 _ rfl
    have q1 := Q 1 _ rfl
    have q2 := Q 2 _ rfl
    have q3 := Q 3 _ rfl
    clear Q hS hD
    refine n_val (by rfl) (by rfl) ?_
    go_simp; first | done | with_reducible rfl
  simp only [Act.put, planV, List.setIfInBounds_toArray, List.set_cons_zero, List.set_cons_succ, List.getElem?_cons_zero, List.getElem?_cons_succ]
  refine ⟨?_, ?_⟩
  · intro w hS hD
    clear hS hD
    refine n_call ?_ ?_ (by rfl) (by rfl) ?_ ?_
    rotate_left 2
    · go_simp; first | done | with_reducible rfl | (constructor <;> with_reducible rfl)
    · refine CmpW_at (IsWide.of hB) (IsWide.of hC) _
  simp only [Act.put, planV, List.setIfInBounds_toArray, List.set_cons_zero, List.set_cons_succ, List.getElem?_cons_zero, List.getElem?_cons_succ]
  intro w1 hS hF
  change wpList _ _ _ _ _ _
  obtain ⟨hk, Ba, Bb, Bc, Bx, By⟩ := hS
  clear hF
  clear ρ
  have hz_w1 := hk.size
  have Bal := Ba.lt
  have Baf := Ba.free
  have Bal1 : w.heap.size < w1.heap.size + 1 := by omega
  have Bal2 : w.heap.size < w1.heap.size + 1 + 1 := by omega
  have Bal3 : w.heap.size < w1.heap.size + 1 + 1 + 1 := by omega
  have Ba0 := Ba.cell 0 _ rfl
  have Ba1 := Ba.cell 1 _ rfl
  have Ba2 := Ba.cell 2 _ rfl
  have Ba3 := Ba.cell 3 _ rfl
  have Bbl := Bb.lt
  have Bbf := Bb.free
  have Bbl1 : w.heap.size + 1 < w1.heap.size + 1 := by omega
  have Bbl2 : w.heap.size + 1 < w1.heap.size + 1 + 1 := by omega
  have Bbl3 : w.heap.size + 1 < w1.heap.size + 1 + 1 + 1 := by omega
  have Bb0 := Bb.cell 0 _ rfl
  have Bb1 := Bb.cell 1 _ rfl
  have Bb2 := Bb.cell 2 _ rfl
  have Bb3 := Bb.cell 3 _ rfl
  have Bcl := Bc.lt
  have Bcf := Bc.free
  have Bcl1 : w.heap.size + 1 + 1 < w1.heap.size + 1 := by omega
  have Bcl2 : w.heap.size + 1 + 1 < w1.heap.size + 1 + 1 := by omega
  have Bcl3 : w.heap.size + 1 + 1 < w1.heap.size + 1 + 1 + 1 := by omega
  have Bc0 := Bc.cell 0 _ rfl
  have Bc1 := Bc.cell 1 _ rfl
  have Bc2 := Bc.cell 2 _ rfl
  have Bc3 := Bc.cell 3 _ rfl
  have Bxl := Bx.lt
  have Bxf := Bx.free
  have Bxl1 : w.heap.size + 1 + 1 + 1 < w1.heap.size + 1 := by omega
  have Bxl2 : w.heap.size + 1 + 1 + 1 < w1.heap.size + 1 + 1 := by omega
  have Bxl3 : w.heap.size + 1 + 1 + 1 < w1.heap.size + 1 + 1 + 1 := by omega
  have Bx0 := Bx.cell 0 _ rfl
  have Bx1 := Bx.cell 1 _ rfl
  have Byl := By.lt
  have Byf := By.free
  have Byl1 : w.heap.size + 1 + 1 + 1 + 1 < w1.heap.size + 1 := by omega
  have Byl2 : w.heap.size + 1 + 1 + 1 + 1 < w1.heap.size + 1 + 1 := by omega
  have Byl3 : w.heap.size + 1 + 1 + 1 + 1 < w1.heap.size + 1 + 1 + 1 := by omega
  have By0 := By.cell 0 _ rfl
  have By1 := By.cell 1 _ rfl
  go_wp2_with fail
  (with_reducible refine (SubW_at (IsWide.of hA) (IsWide.of hB) _).mono ?_)
  rintro e w2 ⟨rfl, hb⟩
  have Ba' : Box w2 (w.heap.size) #[.int .u64 (limb 0 A), .int .u64 (limb 1 A), .int .u64 (limb 2 A), .int .u64 (limb 3 A)] := Box.call hb (by repeat (first | with_reducible assumption | with_reducible apply Box.set10 | with_reducible apply Box.set20 | with_reducible apply Box.set21 | with_reducible apply Box.set40 | with_reducible apply Box.set41 | with_reducible apply Box.set42 | with_reducible apply Box.set43 | with_reducible apply Box.set50 | with_reducible apply Box.set51 | with_reducible apply Box.set52 | with_reducible apply Box.set53 | with_reducible apply Box.set54 | with_reducible apply Box.drew | (with_reducible apply Box.newAt; (try simp only [World.size_alloc, World.size_setCell, World.size_drew]); done) | with_reducible apply Box.alloc | (with_reducible apply Box.other; case hne => ((try simp only [World.size_alloc, World.size_setCell, World.size_drew]); omega))))
  have Bb' : Box w2 (w.heap.size + 1) #[.int .u64 (limb 0 B), .int .u64 (limb 1 B), .int .u64 (limb 2 B), .int .u64 (limb 3 B)] := Box.call hb (by repeat (first | with_reducible assumption | with_reducible apply Box.set10 | with_reducible apply Box.set20 | with_reducible apply Box.set21 | with_reducible apply Box.set40 | with_reducible apply Box.set41 | with_reducible apply Box.set42 | with_reducible apply Box.set43 | with_reducible apply Box.set50 | with_reducible apply Box.set51 | with_reducible apply Box.set52 | with_reducible apply Box.set53 | with_reducible apply Box.set54 | with_reducible apply Box.drew | (with_reducible apply Box.newAt; (try simp only [World.size_alloc, World.size_setCell, World.size_drew]); done) | with_reducible apply Box.alloc | (with_reducible apply Box.other; case hne => ((try simp only [World.size_alloc, World.size_setCell, World.size_drew]); omega))))
  have Bc' : Box w2 (w.heap.size + 1 + 1) #[.int .u64 (limb 0 C), .int .u64 (limb 1 C), .int .u64 (limb 2 C), .int .u64 (limb 3 C)] := Box.call hb (by repeat (first | with_reducible assumption | with_reducible apply Box.set10 | with_reducible apply Box.set20 | with_reducible apply Box.set21 | with_reducible apply Box.set40 | with_reducible apply Box.set41 | with_reducible apply Box.set42 | with_reducible apply Box.set43 | with_reducible apply Box.set50 | with_reducible apply Box.set51 | with_reducible apply Box.set52 | with_reducible apply Box.set53 | with_reducible apply Box.set54 | with_reducible apply Box.drew | (with_reducible apply Box.newAt; (try simp only [World.size_alloc, World.size_setCell, World.size_drew]); done) | with_reducible apply Box.alloc | (with_reducible apply Box.other; case hne => ((try simp only [World.size_alloc, World.size_setCell, World.size_drew]); omega))))
  have Bx' : Box w2 (w.heap.size + 1 + 1 + 1) #[.int .u64 (limb 1 X), .int .u64 (limb 0 X)] := Box.call hb (by repeat (first | with_reducible assumption | with_reducible apply Box.set10 | with_reducible apply Box.set20 | with_reducible apply Box.set21 | with_reducible apply Box.set40 | with_reducible apply Box.set41 | with_reducible apply Box.set42 | with_reducible apply Box.set43 | with_reducible apply Box.set50 | with_reducible apply Box.set51 | with_reducible apply Box.set52 | with_reducible apply Box.set53 | with_reducible apply Box.set54 | with_reducible apply Box.drew | (with_reducible apply Box.newAt; (try simp only [World.size_alloc, World.size_setCell, World.size_drew]); done) | with_reducible apply Box.alloc | (with_reducible apply Box.other; case hne => ((try simp only [World.size_alloc, World.size_setCell, World.size_drew]); omega))))
  have By' : Box w2 (w.heap.size + 1 + 1 + 1 + 1) #[.int .u64 (limb 1 Y), .int .u64 (limb 0 Y)] := Box.call hb (by repeat (first | with_reducible assumption | with_reducible apply Box.set10 | with_reducible apply Box.set20 | with_reducible apply Box.set21 | with_reducible apply Box.set40 | with_reducible apply Box.set41 | with_reducible apply Box.set42 | with_reducible apply Box.set43 | with_reducible apply Box.set50 | with_reducible apply Box.set51 | with_reducible apply Box.set52 | with_reducible apply Box.set53 | with_reducible apply Box.set54 | with_reducible apply Box.drew | (with_reducible apply Box.newAt; (try simp only [World.size_alloc, World.size_setCell, World.size_drew]); done) | with_reducible apply Box.alloc | (with_reducible apply Box.other; case hne => ((try simp only [World.size_alloc, World.size_setCell, World.size_drew]); omega))))
  have hk' : Kept w.heap.size w w2 := Kept.step (by repeat (first | with_reducible exact hk | with_reducible exact Kept.refl _ | with_reducible refine Kept.alloc ?_ _ | with_reducible refine Kept.drew ?_ | with_reducible refine Kept.setCell ?_ (by simp only [World.size_alloc, World.size_setCell, World.size_drew]; omega) _)) hb
  clear hk hb
  clear Ba Bal1 Bal2 Bal3 Baf Ba0 Ba1 Ba2 Ba3
  clear Bb Bbl1 Bbl2 Bbl3 Bbf Bb0 Bb1 Bb2 Bb3
  clear Bc Bcl1 Bcl2 Bcl3 Bcf Bc0 Bc1 Bc2 Bc3
  clear Bx Bxl1 Bxl2 Bxl3 Bxf Bx0 Bx1
  clear By Byl1 Byl2 Byl3 Byf By0 By1
  have Ba := Ba'
  clear Ba'
  have Bb := Bb'
  clear Bb'
  have Bc := Bc'
  clear Bc'
  have Bx := Bx'
  clear Bx'
  have By := By'
  clear By'
  have hk := hk'
  clear hk'
  have hz_w2 := hk.size
  have Bal := Ba.lt
  have Baf := Ba.free
  have Bal1 : w.heap.size < w2.heap.size + 1 := by omega
  have Bal2 : w.heap.size < w2.heap.size + 1 + 1 := by omega
  have Bal3 : w.heap.size < w2.heap.size + 1 + 1 + 1 := by omega
  have Ba0 := Ba.cell 0 _ rfl
  have Ba1 := Ba.cell 1 _ rfl
  have Ba2 := Ba.cell 2 _ rfl
  have Ba3 := Ba.cell 3 _ rfl
  have Bbl := Bb.lt
  have Bbf := Bb.free
  have Bbl1 : w.heap.size + 1 < w2.heap.size + 1 := by omega
  have Bbl2 : w.heap.size + 1 < w2.heap.size + 1 + 1 := by omega
  have Bbl3 : w.heap.size + 1 < w2.heap.size + 1 + 1 + 1 := by omega
  have Bb0 := Bb.cell 0 _ rfl
  have Bb1 := Bb.cell 1 _ rfl
  have Bb2 := Bb.cell 2 _ rfl
  have Bb3 := Bb.cell 3 _ rfl
  have Bcl := Bc.lt
  have Bcf := Bc.free
  have Bcl1 : w.heap.size + 1 + 1 < w2.heap.size + 1 := by omega
  have Bcl2 : w.heap.size + 1 + 1 < w2.heap.size + 1 + 1 := by omega
  have Bcl3 : w.heap.size + 1 + 1 < w2.heap.size + 1 + 1 + 1 := by omega
  have Bc0 := Bc.cell 0 _ rfl
  have Bc1 := Bc.cell 1 _ rfl
  have Bc2 := Bc.cell 2 _ rfl
  have Bc3 := Bc.cell 3 _ rfl
  have Bxl := Bx.lt
  have Bxf := Bx.free
  have Bxl1 : w.heap.size + 1 + 1 + 1 < w2.heap.size + 1 := by omega
  have Bxl2 : w.heap.size + 1 + 1 + 1 < w2.heap.size + 1 + 1 := by omega
  have Bxl3 : w.heap.size + 1 + 1 + 1 < w2.heap.size + 1 + 1 + 1 := by omega
  have Bx0 := Bx.cell 0 _ rfl
  have Bx1 := Bx.cell 1 _ rfl
  have Byl := By.lt
  have Byf := By.free
  have Byl1 : w.heap.size + 1 + 1 + 1 + 1 < w2.heap.size + 1 := by omega
  have Byl2 : w.heap.size + 1 + 1 + 1 + 1 < w2.heap.size + 1 + 1 := by omega
  have Byl3 : w.heap.size + 1 + 1 + 1 + 1 < w2.heap.size + 1 + 1 + 1 := by omega
  have By0 := By.cell 0 _ rfl
  have By1 := By.cell 1 _ rfl
  go_wp2
  refine wp_region_num 12 (fun W' => Kept w.heap.size w W' ∧ Box W' (w.heap.size) #[.int .u64 (limb 0 A), .int .u64 (limb 1 A), .int .u64 (limb 2 A), .int .u64 (limb 3 A)] ∧ Box W' (w.heap.size + 1) #[.int .u64 (limb 0 B), .int .u64 (limb 1 B), .int .u64 (limb 2 B), .int .u64 (limb 3 B)] ∧ Box W' (w.heap.size + 1 + 1) #[.int .u64 (limb 0 C), .int .u64 (limb 1 C), .int .u64 (limb 2 C), .int .u64 (limb 3 C)] ∧ Box W' (w.heap.size + 1 + 1 + 1) #[.int .u64 (limb 1 X), .int .u64 (limb 0 X)] ∧ Box W' (w.heap.size + 1 + 1 + 1 + 1) #[.int .u64 (limb 1 Y), .int .u64 (limb 0 Y)]) [.known (bitsV X), .known (wideV X), .known (bitsV Y), .known (wideV Y), .known (.int .i64 (cmpN X Y)), .known (bitsV X), .known (bitsV Y), .known (.int .i64 (cmpN X Y)), .known (.bool true), .known (.bool true), .known (.bool true), .known (.bool true)] (by kernel_rfl) (by kernel_rfl) (fun W W' h hb => ⟨(h.1).step hb, Box.call hb (h.2.1), Box.call hb (h.2.2.1), Box.call hb (h.2.2.2.1), Box.call hb (h.2.2.2.2.1), Box.call hb (h.2.2.2.2.2)⟩) (⟨(by repeat (first | with_reducible exact hk | with_reducible exact Kept.refl _ | with_reducible refine Kept.alloc ?_ _ | with_reducible refine Kept.drew ?_ | with_reducible refine Kept.setCell ?_ (by simp only [World.size_alloc, World.size_setCell, World.size_drew]; omega) _)), (by repeat (first | with_reducible assumption | with_reducible apply Box.set10 | with_reducible apply Box.set20 | with_reducible apply Box.set21 | with_reducible apply Box.set40 | with_reducible apply Box.set41 | with_reducible apply Box.set42 | with_reducible apply Box.set43 | with_reducible apply Box.set50 | with_reducible apply Box.set51 | with_reducible apply Box.set52 | with_reducible apply Box.set53 | with_reducible apply Box.set54 | with_reducible apply Box.drew | (with_reducible apply Box.newAt; (try simp only [World.size_alloc, World.size_setCell, World.size_drew]); done) | with_reducible apply Box.alloc | (with_reducible apply Box.other; case hne => ((try simp only [World.size_alloc, World.size_setCell, World.size_drew]); omega)))), (by repeat (first | with_reducible assumption | with_reducible apply Box.set10 | with_reducible apply Box.set20 | with_reducible apply Box.set21 | with_reducible apply Box.set40 | with_reducible apply Box.set41 | with_reducible apply Box.set42 | with_reducible apply Box.set43 | with_reducible apply Box.set50 | with_reducible apply Box.set51 | with_reducible apply Box.set52 | with_reducible apply Box.set53 | with_reducible apply Box.set54 | with_reducible apply Box.drew | (with_reducible apply Box.newAt; (try simp only [World.size_alloc, World.size_setCell, World.size_drew]); done) | with_reducible apply Box.alloc | (with_reducible apply Box.other; case hne => ((try simp only [World.size_alloc, World.size_setCell, World.size_drew]); omega)))), (by repeat (first | with_reducible assumption | with_reducible apply Box.set10 | with_reducible apply Box.set20 | with_reducible apply Box.set21 | with_reducible apply Box.set40 | with_reducible apply Box.set41 | with_reducible apply Box.set42 | with_reducible apply Box.set43 | with_reducible apply Box.set50 | with_reducible apply Box.set51 | with_reducible apply Box.set52 | with_reducible apply Box.set53 | with_reducible apply Box.set54 | with_reducible apply Box.drew | (with_reducible apply Box.newAt; (try simp only [World.size_alloc, World.size_setCell, World.size_drew]); done) | with_reducible apply Box.alloc | (with_reducible apply Box.other; case hne => ((try simp only [World.size_alloc, World.size_setCell, World.size_drew]); omega)))), (by repeat (first | with_reducible assumption | with_reducible apply Box.set10 | with_reducible apply Box.set20 | with_reducible apply Box.set21 | with_reducible apply Box.set40 | with_reducible apply Box.set41 | with_reducible apply Box.set42 | with_reducible apply Box.set43 | with_reducible apply Box.set50 | with_reducible apply Box.set51 | with_reducible apply Box.set52 | with_reducible apply Box.set53 | with_reducible apply Box.set54 | with_reducible apply Box.drew | (with_reducible apply Box.newAt; (try simp only [World.size_alloc, World.size_setCell, World.size_drew]); done) | with_reducible apply Box.alloc | (with_reducible apply Box.other; case hne => ((try simp only [World.size_alloc, World.size_setCell, World.size_drew]); omega)))), (by repeat (first | with_reducible assumption | with_reducible apply Box.set10 | with_reducible apply Box.set20 | with_reducible apply Box.set21 | with_reducible apply Box.set40 | with_reducible apply Box.set41 | with_reducible apply Box.set42 | with_reducible apply Box.set43 | with_reducible apply Box.set50 | with_reducible apply Box.set51 | with_reducible apply Box.set52 | with_reducible apply Box.set53 | with_reducible apply Box.set54 | with_reducible apply Box.drew | (with_reducible apply Box.newAt; (try simp only [World.size_alloc, World.size_setCell, World.size_drew]); done) | with_reducible apply Box.alloc | (with_reducible apply Box.other; case hne => ((try simp only [World.size_alloc, World.size_setCell, World.size_drew]); omega))))⟩) ?_
  clear hk
  clear Ba Bal1 Bal2 Bal3 Baf Ba0 Ba1 Ba2 Ba3
  clear Bb Bbl1 Bbl2 Bbl3 Bbf Bb0 Bb1 Bb2 Bb3
  clear Bc Bcl1 Bcl2 Bcl3 Bcf Bc0 Bc1 Bc2 Bc3
  clear Bx Bxl1 Bxl2 Bxl3 Bxf Bx0 Bx1
  clear By Byl1 Byl2 Byl3 Byf By0 By1
  intro ρ
  simp only [List.take_succ_cons, List.take_zero, List.drop_succ_cons, List.drop_zero]
  refine ⟨?_, ?_⟩
  · intro w hS hD
    have Q := (hS.2.2.2.2.1).cell
    have q0 := Q 0 _ rfl
    have q1 := Q 1 _ rfl
    clear Q hS hD
    refine n_val (by rfl) (by rfl) ?_
    go_simp; first | done | with_reducible rfl
  simp only [Act.put, planV, List.setIfInBounds_toArray, List.set_cons_zero, List.set_cons_succ, List.getElem?_cons_zero, List.getElem?_cons_succ]
  refine ⟨?_, ?_⟩
  · intro w hS hD
    clear hS hD
    refine n_call ?_ ?_ (by rfl) (by rfl) ?_ ?_
    rotate_left 2
    · go_simp; first | done | with_reducible rfl | (constructor <;> with_reducible rfl)
    · refine Of_at (IsBits.of hX) _
  simp only [Act.put, planV, List.setIfInBounds_toArray, List.set_cons_zero, List.set_cons_succ, List.getElem?_cons_zero, List.getElem?_cons_succ]
  refine ⟨?_, ?_⟩
  · intro w hS hD
    have Q := (hS.2.2.2.2.2).cell
    have q0 := Q 0 _ rfl
    have q1 := Q 1 _ rfl
    clear Q hS hD
    refine n_val (by rfl) (by rfl) ?_
    go_simp; first | done | with_reducible rfl
  simp only [Act.put, planV, List.setIfInBounds_toArray, List.set_cons_zero, List.set_cons_succ, List.getElem?_cons_zero, List.getElem?_cons_succ]
  refine ⟨?_, ?_⟩
  · intro w hS hD
    clear hS hD
    refine n_call ?_ ?_ (by rfl) (by rfl) ?_ ?_
    rotate_left 2
    · go_simp; first | done | with_reducible rfl | (constructor <;> with_reducible rfl)
    · refine Of_at (IsBits.of hY) _
  simp only [Act.put, planV, List.setIfInBounds_toArray, List.set_cons_zero, List.set_cons_succ, List.getElem?_cons_zero, List.getElem?_cons_succ]
  refine ⟨?_, ?_⟩
  · intro w hS hD
    clear hS hD
    refine n_call ?_ ?_ (by rfl) (by rfl) ?_ ?_
    rotate_left 2
    · go_simp; first | done | with_reducible rfl | (constructor <;> with_reducible rfl)
    · refine CmpW_at (IsWide.of (w128_256 hX)) (IsWide.of (w128_256 hY)) _
  simp only [Act.put, planV, List.setIfInBounds_toArray, List.set_cons_zero, List.set_cons_succ, List.getElem?_cons_zero, List.getElem?_cons_succ]
  refine ⟨?_, ?_⟩
  · intro w hS hD
    have Q := (hS.2.2.2.2.1).cell
    have q0 := Q 0 _ rfl
    have q1 := Q 1 _ rfl
    clear Q hS hD
    refine n_val (by rfl) (by rfl) ?_
    go_simp; first | done | with_reducible rfl
  simp only [Act.put, planV, List.setIfInBounds_toArray, List.set_cons_zero, List.set_cons_succ, List.getElem?_cons_zero, List.getElem?_cons_succ]
  refine ⟨?_, ?_⟩
  · intro w hS hD
    have Q := (hS.2.2.2.2.2).cell
    have q0 := Q 0 _ rfl
    have q1 := Q 1 _ rfl
    clear Q hS hD
    refine n_val (by rfl) (by rfl) ?_
    go_simp; first | done | with_reducible rfl
  simp only [Act.put, planV, List.setIfInBounds_toArray, List.set_cons_zero, List.set_cons_succ, List.getElem?_cons_zero, List.getElem?_cons_succ]
  refine ⟨?_, ?_⟩
  · intro w hS hD
    clear hS hD
    refine n_call ?_ ?_ (by rfl) (by rfl) ?_ ?_
    rotate_left 2
    · go_simp; first | done | with_reducible rfl | (constructor <;> with_reducible rfl)
    · refine Cmp_at (IsBits.of hX) (IsBits.of hY) _
  simp only [Act.put, planV, List.setIfInBounds_toArray, List.set_cons_zero, List.set_cons_succ, List.getElem?_cons_zero, List.getElem?_cons_succ]
  refine ⟨?_, ?_⟩
  · intro w hS hD
    clear hS hD
    refine n_val (by rfl) (by rfl) ?_
    go_simp; first | done | with_reducible rfl | rfl
  simp only [Act.put, planV, List.setIfInBounds_toArray, List.set_cons_zero, List.set_cons_succ, List.getElem?_cons_zero, List.getElem?_cons_succ]
  refine ⟨?_, ?_⟩
  · intro w hS hD
    clear hS hD
    refine n_val (by rfl) (by rfl) ?_
    go_simp; first | done | with_reducible rfl | rfl
  simp only [Act.put, planV, List.setIfInBounds_toArray, List.set_cons_zero, List.set_cons_succ, List.getElem?_cons_zero, List.getElem?_cons_succ]
  refine ⟨?_, ?_⟩
  · intro w hS hD
    clear hS hD
    refine n_call ?_ ?_ (by rfl) (by rfl) ?_ ?_
    rotate_left 2
    · go_simp; first | done | with_reducible rfl | (constructor <;> with_reducible rfl)
    · refine counts02_any _
  simp only [Act.put, planV, List.setIfInBounds_toArray, List.set_cons_zero, List.set_cons_succ, List.getElem?_cons_zero, List.getElem?_cons_succ]
  refine ⟨?_, ?_⟩
  · intro w hS hD
    clear hS hD
    refine n_val (by rfl) (by rfl) ?_
    go_simp; first | done | with_reducible rfl | rfl
  simp only [Act.put, planV, List.setIfInBounds_toArray, List.set_cons_zero, List.set_cons_succ, List.getElem?_cons_zero, List.getElem?_cons_succ]
  intro w3 hS hF
  change wpList _ _ _ _ _ _
  obtain ⟨hk, Ba, Bb, Bc, Bx, By⟩ := hS
  clear hF
  clear ρ
  have hz_w3 := hk.size
  have Bal := Ba.lt
  have Baf := Ba.free
  have Bal1 : w.heap.size < w3.heap.size + 1 := by omega
  have Bal2 : w.heap.size < w3.heap.size + 1 + 1 := by omega
  have Bal3 : w.heap.size < w3.heap.size + 1 + 1 + 1 := by omega
  have Ba0 := Ba.cell 0 _ rfl
  have Ba1 := Ba.cell 1 _ rfl
  have Ba2 := Ba.cell 2 _ rfl
  have Ba3 := Ba.cell 3 _ rfl
  have Bbl := Bb.lt
  have Bbf := Bb.free
  have Bbl1 : w.heap.size + 1 < w3.heap.size + 1 := by omega
  have Bbl2 : w.heap.size + 1 < w3.heap.size + 1 + 1 := by omega
  have Bbl3 : w.heap.size + 1 < w3.heap.size + 1 + 1 + 1 := by omega
  have Bb0 := Bb.cell 0 _ rfl
  have Bb1 := Bb.cell 1 _ rfl
  have Bb2 := Bb.cell 2 _ rfl
  have Bb3 := Bb.cell 3 _ rfl
  have Bcl := Bc.lt
  have Bcf := Bc.free
  have Bcl1 : w.heap.size + 1 + 1 < w3.heap.size + 1 := by omega
  have Bcl2 : w.heap.size + 1 + 1 < w3.heap.size + 1 + 1 := by omega
  have Bcl3 : w.heap.size + 1 + 1 < w3.heap.size + 1 + 1 + 1 := by omega
  have Bc0 := Bc.cell 0 _ rfl
  have Bc1 := Bc.cell 1 _ rfl
  have Bc2 := Bc.cell 2 _ rfl
  have Bc3 := Bc.cell 3 _ rfl
  have Bxl := Bx.lt
  have Bxf := Bx.free
  have Bxl1 : w.heap.size + 1 + 1 + 1 < w3.heap.size + 1 := by omega
  have Bxl2 : w.heap.size + 1 + 1 + 1 < w3.heap.size + 1 + 1 := by omega
  have Bxl3 : w.heap.size + 1 + 1 + 1 < w3.heap.size + 1 + 1 + 1 := by omega
  have Bx0 := Bx.cell 0 _ rfl
  have Bx1 := Bx.cell 1 _ rfl
  have Byl := By.lt
  have Byf := By.free
  have Byl1 : w.heap.size + 1 + 1 + 1 + 1 < w3.heap.size + 1 := by omega
  have Byl2 : w.heap.size + 1 + 1 + 1 + 1 < w3.heap.size + 1 + 1 := by omega
  have Byl3 : w.heap.size + 1 + 1 + 1 + 1 < w3.heap.size + 1 + 1 + 1 := by omega
  have By0 := By.cell 0 _ rfl
  have By1 := By.cell 1 _ rfl
  go_wp2
  go_ret
  exact ⟨rfl, (by refine Kept.below ?_; repeat (first | with_reducible exact hk | with_reducible exact Kept.refl _ | with_reducible refine Kept.alloc ?_ _ | with_reducible refine Kept.drew ?_ | with_reducible refine Kept.setCell ?_ (by simp only [World.size_alloc, World.size_setCell, World.size_drew]; omega) _))⟩

set_option maxRecDepth 100000 in
set_option maxHeartbeats 8000000 in
theorem WideOrder_eq1 {A C X Y : Nat} (hA : W256 A) (hC : W256 C) (hX : W128 X) (hY : W128 Y) (hz : A ≤ C) (w : World) :
    Calls Try.prog 15 #[wideV A, wideV A, wideV C, bitsV X, bitsV Y] w fun e w' => e = .returned (.bool true) ∧ Below w.heap.size w w' := by
  have hk := Kept.refl w
  have f1 := cmp_eq A
  have f3 := cmp_le.2 hz
  have f5 := lt_false (Nat.le_refl A)
  clear hz
  go_enter Try.func15, Try.ntmps15
  go_wp2
  refine wp_region_num 9 (fun W' => Kept w.heap.size w W' ∧ Box W' (w.heap.size) #[.int .u64 (limb 0 A), .int .u64 (limb 1 A), .int .u64 (limb 2 A), .int .u64 (limb 3 A)] ∧ Box W' (w.heap.size + 1) #[.int .u64 (limb 0 A), .int .u64 (limb 1 A), .int .u64 (limb 2 A), .int .u64 (limb 3 A)] ∧ Box W' (w.heap.size + 1 + 1) #[.int .u64 (limb 0 C), .int .u64 (limb 1 C), .int .u64 (limb 2 C), .int .u64 (limb 3 C)] ∧ Box W' (w.heap.size + 1 + 1 + 1) #[.int .u64 (limb 1 X), .int .u64 (limb 0 X)] ∧ Box W' (w.heap.size + 1 + 1 + 1 + 1) #[.int .u64 (limb 1 Y), .int .u64 (limb 0 Y)]) [.known (wideV A), .known (wideV A), .known (.int .i64 (cmpN A A)), .known (wideV A), .known (wideV A), .known (.int .i64 (cmpN A A)), .known (wideV A), .known (wideV C), .known (.int .i64 (cmpN A C))] (by kernel_rfl) (by kernel_rfl) (fun W W' h hb => ⟨(h.1).step hb, Box.call hb (h.2.1), Box.call hb (h.2.2.1), Box.call hb (h.2.2.2.1), Box.call hb (h.2.2.2.2.1), Box.call hb (h.2.2.2.2.2)⟩) (⟨(by repeat (first | with_reducible exact hk | with_reducible exact Kept.refl _ | with_reducible refine Kept.alloc ?_ _ | with_reducible refine Kept.drew ?_ | with_reducible refine Kept.setCell ?_ (by simp only [World.size_alloc, World.size_setCell, World.size_drew]; omega) _)), (by repeat (first | with_reducible assumption | with_reducible apply Box.set10 | with_reducible apply Box.set20 | with_reducible apply Box.set21 | with_reducible apply Box.set40 | with_reducible apply Box.set41 | with_reducible apply Box.set42 | with_reducible apply Box.set43 | with_reducible apply Box.set50 | with_reducible apply Box.set51 | with_reducible apply Box.set52 | with_reducible apply Box.set53 | with_reducible apply Box.set54 | with_reducible apply Box.drew | (with_reducible apply Box.newAt; (try simp only [World.size_alloc, World.size_setCell, World.size_drew]); done) | with_reducible apply Box.alloc | (with_reducible apply Box.other; case hne => ((try simp only [World.size_alloc, World.size_setCell, World.size_drew]); omega)))), (by repeat (first | with_reducible assumption | with_reducible apply Box.set10 | with_reducible apply Box.set20 | with_reducible apply Box.set21 | with_reducible apply Box.set40 | with_reducible apply Box.set41 | with_reducible apply Box.set42 | with_reducible apply Box.set43 | with_reducible apply Box.set50 | with_reducible apply Box.set51 | with_reducible apply Box.set52 | with_reducible apply Box.set53 | with_reducible apply Box.set54 | with_reducible apply Box.drew | (with_reducible apply Box.newAt; (try simp only [World.size_alloc, World.size_setCell, World.size_drew]); done) | with_reducible apply Box.alloc | (with_reducible apply Box.other; case hne => ((try simp only [World.size_alloc, World.size_setCell, World.size_drew]); omega)))), (by repeat (first | with_reducible assumption | with_reducible apply Box.set10 | with_reducible apply Box.set20 | with_reducible apply Box.set21 | with_reducible apply Box.set40 | with_reducible apply Box.set41 | with_reducible apply Box.set42 | with_reducible apply Box.set43 | with_reducible apply Box.set50 | with_reducible apply Box.set51 | with_reducible apply Box.set52 | with_reducible apply Box.set53 | with_reducible apply Box.set54 | with_reducible apply Box.drew | (with_reducible apply Box.newAt; (try simp only [World.size_alloc, World.size_setCell, World.size_drew]); done) | with_reducible apply Box.alloc | (with_reducible apply Box.other; case hne => ((try simp only [World.size_alloc, World.size_setCell, World.size_drew]); omega)))), (by repeat (first | with_reducible assumption | with_reducible apply Box.set10 | with_reducible apply Box.set20 | with_reducible apply Box.set21 | with_reducible apply Box.set40 | with_reducible apply Box.set41 | with_reducible apply Box.set42 | with_reducible apply Box.set43 | with_reducible apply Box.set50 | with_reducible apply Box.set51 | with_reducible apply Box.set52 | with_reducible apply Box.set53 | with_reducible apply Box.set54 | with_reducible apply Box.drew | (with_reducible apply Box.newAt; (try simp only [World.size_alloc, World.size_setCell, World.size_drew]); done) | with_reducible apply Box.alloc | (with_reducible apply Box.other; case hne => ((try simp only [World.size_alloc, World.size_setCell, World.size_drew]); omega)))), (by repeat (first | with_reducible assumption | with_reducible apply Box.set10 | with_reducible apply Box.set20 | with_reducible apply Box.set21 | with_reducible apply Box.set40 | with_reducible apply Box.set41 | with_reducible apply Box.set42 | with_reducible apply Box.set43 | with_reducible apply Box.set50 | with_reducible apply Box.set51 | with_reducible apply Box.set52 | with_reducible apply Box.set53 | with_reducible apply Box.set54 | with_reducible apply Box.drew | (with_reducible apply Box.newAt; (try simp only [World.size_alloc, World.size_setCell, World.size_drew]); done) | with_reducible apply Box.alloc | (with_reducible apply Box.other; case hne => ((try simp only [World.size_alloc, World.size_setCell, World.size_drew]); omega))))⟩) ?_
  clear hk
  intro ρ
  simp only [List.take_succ_cons, List.take_zero, List.drop_succ_cons, List.drop_zero]
  refine ⟨?_, ?_⟩
  · intro w hS hD
    have Q := (hS.2.1).cell
    have q0 := Q 0 _ rfl
    have q1 := Q 1 _ rfl
    have q2 := Q 2 _ rfl
    have q3 := Q 3 _ rfl
    clear Q hS hD
    refine n_val (by rfl) (by rfl) ?_
    go_simp; first | done | with_reducible rfl
  simp only [Act.put, planV, List.setIfInBounds_toArray, List.set_cons_zero, List.set_cons_succ, List.getElem?_cons_zero, List.getElem?_cons_succ]
  refine ⟨?_, ?_⟩
  · intro w hS hD
    have Q := (hS.2.2.1).cell
    have q0 := Q 0 _ rfl
    have q1 := Q 1 _ rfl
    have q2 := Q 2 _ rfl
    have q3 := Q 3 _ rfl
    clear Q hS hD
    refine n_val (by rfl) (by rfl) ?_
    go_simp; first | done | with_reducible rfl
  simp only [Act.put, planV, List.setIfInBounds_toArray, List.set_cons_zero, List.set_cons_succ, List.getElem?_cons_zero, List.getElem?_cons_succ]
  refine ⟨?_, ?_⟩
  · intro w hS hD
    clear hS hD
    refine n_call ?_ ?_ (by rfl) (by rfl) ?_ ?_
    rotate_left 2
    · go_simp; first | done | with_reducible rfl | (constructor <;> with_reducible rfl)
    · refine CmpW_at (IsWide.of hA) (IsWide.of hA) _
  simp only [Act.put, planV, List.setIfInBounds_toArray, List.set_cons_zero, List.set_cons_succ, List.getElem?_cons_zero, List.getElem?_cons_succ]
  refine ⟨?_, ?_⟩
  · intro w hS hD
    have Q := (hS.2.2.1).cell
    have q0 := Q 0 _ rfl
    have q1 := Q 1 _ rfl
    have q2 := Q 2 _ rfl
    have q3 := Q 3 _ rfl
    clear Q hS hD
    refine n_val (by rfl) (by rfl) ?_
    go_simp; first | done | with_reducible rfl
  simp only [Act.put, planV, List.setIfInBounds_toArray, List.set_cons_zero, List.set_cons_succ, List.getElem?_cons_zero, List.getElem?_cons_succ]
  refine ⟨?_, ?_⟩
  · intro w hS hD
    have Q := (hS.2.1).cell
    have q0 := Q 0 _ rfl
    have q1 := Q 1 _ rfl
    have q2 := Q 2 _ rfl
    have q3 := Q 3 _ rfl
    clear Q hS hD
    refine n_val (by rfl) (by rfl) ?_
    go_simp; first | done | with_reducible rfl
  simp only [Act.put, planV, List.setIfInBounds_toArray, List.set_cons_zero, List.set_cons_succ, List.getElem?_cons_zero, List.getElem?_cons_succ]
  refine ⟨?_, ?_⟩
  · intro w hS hD
    clear hS hD
    refine n_call ?_ ?_ (by rfl) (by rfl) ?_ ?_
    rotate_left 2
    · go_simp; first | done | with_reducible rfl | (constructor <;> with_reducible rfl)
    · refine CmpW_at (IsWide.of hA) (IsWide.of hA) _
  simp only [Act.put, planV, List.setIfInBounds_toArray, List.set_cons_zero, List.set_cons_succ, List.getElem?_cons_zero, List.getElem?_cons_succ]
  refine ⟨?_, ?_⟩
  · intro w hS hD
    have Q := (hS.2.2.1).cell
    have q0 := Q 0 _ rfl
    have q1 := Q 1 _ rfl
    have q2 := Q 2 _ rfl
    have q3 := Q 3 _ rfl
    clear Q hS hD
    refine n_val (by rfl) (by rfl) ?_
    go_simp; first | done | with_reducible rfl
  simp only [Act.put, planV, List.setIfInBounds_toArray, List.set_cons_zero, List.set_cons_succ, List.getElem?_cons_zero, List.getElem?_cons_succ]
  refine ⟨?_, ?_⟩
  · intro w hS hD
    have Q := (hS.2.2.2.1).cell
    have q0 := Q 0 _ rfl
    have q1 := Q 1 _ rfl
    have q2 := Q 2 _ rfl
    have q3 := Q 3 _ rfl
    clear Q hS hD
    refine n_val (by rfl) (by rfl) ?_
    go_simp; first | done | with_reducible rfl
  simp only [Act.put, planV, List.setIfInBounds_toArray, List.set_cons_zero, List.set_cons_succ, List.getElem?_cons_zero, List.getElem?_cons_succ]
  refine ⟨?_, ?_⟩
  · intro w hS hD
    clear hS hD
    refine n_call ?_ ?_ (by rfl) (by rfl) ?_ ?_
    rotate_left 2
    · go_simp; first | done | with_reducible rfl | (constructor <;> with_reducible rfl)
    · refine CmpW_at (IsWide.of hA) (IsWide.of hC) _
  simp only [Act.put, planV, List.setIfInBounds_toArray, List.set_cons_zero, List.set_cons_succ, List.getElem?_cons_zero, List.getElem?_cons_succ]
  intro w1 hS hF
  change wpList _ _ _ _ _ _
  obtain ⟨hk, Ba, Bb, Bc, Bx, By⟩ := hS
  clear hF
  clear ρ
  have hz_w1 := hk.size
  have Bal := Ba.lt
  have Baf := Ba.free
  have Bal1 : w.heap.size < w1.heap.size + 1 := by omega
  have Bal2 : w.heap.size < w1.heap.size + 1 + 1 := by omega
  have Bal3 : w.heap.size < w1.heap.size + 1 + 1 + 1 := by omega
  have Ba0 := Ba.cell 0 _ rfl
  have Ba1 := Ba.cell 1 _ rfl
  have Ba2 := Ba.cell 2 _ rfl
  have Ba3 := Ba.cell 3 _ rfl
  have Bbl := Bb.lt
  have Bbf := Bb.free
  have Bbl1 : w.heap.size + 1 < w1.heap.size + 1 := by omega
  have Bbl2 : w.heap.size + 1 < w1.heap.size + 1 + 1 := by omega
  have Bbl3 : w.heap.size + 1 < w1.heap.size + 1 + 1 + 1 := by omega
  have Bb0 := Bb.cell 0 _ rfl
  have Bb1 := Bb.cell 1 _ rfl
  have Bb2 := Bb.cell 2 _ rfl
  have Bb3 := Bb.cell 3 _ rfl
  have Bcl := Bc.lt
  have Bcf := Bc.free
  have Bcl1 : w.heap.size + 1 + 1 < w1.heap.size + 1 := by omega
  have Bcl2 : w.heap.size + 1 + 1 < w1.heap.size + 1 + 1 := by omega
  have Bcl3 : w.heap.size + 1 + 1 < w1.heap.size + 1 + 1 + 1 := by omega
  have Bc0 := Bc.cell 0 _ rfl
  have Bc1 := Bc.cell 1 _ rfl
  have Bc2 := Bc.cell 2 _ rfl
  have Bc3 := Bc.cell 3 _ rfl
  have Bxl := Bx.lt
  have Bxf := Bx.free
  have Bxl1 : w.heap.size + 1 + 1 + 1 < w1.heap.size + 1 := by omega
  have Bxl2 : w.heap.size + 1 + 1 + 1 < w1.heap.size + 1 + 1 := by omega
  have Bxl3 : w.heap.size + 1 + 1 + 1 < w1.heap.size + 1 + 1 + 1 := by omega
  have Bx0 := Bx.cell 0 _ rfl
  have Bx1 := Bx.cell 1 _ rfl
  have Byl := By.lt
  have Byf := By.free
  have Byl1 : w.heap.size + 1 + 1 + 1 + 1 < w1.heap.size + 1 := by omega
  have Byl2 : w.heap.size + 1 + 1 + 1 + 1 < w1.heap.size + 1 + 1 := by omega
  have Byl3 : w.heap.size + 1 + 1 + 1 + 1 < w1.heap.size + 1 + 1 + 1 := by omega
  have By0 := By.cell 0 _ rfl
  have By1 := By.cell 1 _ rfl
  go_wp2_with fail
  (with_reducible refine (SubW_at (IsWide.of hA) (IsWide.of hA) _).mono ?_)
  rintro e w2 ⟨rfl, hb⟩
  have Ba' : Box w2 (w.heap.size) #[.int .u64 (limb 0 A), .int .u64 (limb 1 A), .int .u64 (limb 2 A), .int .u64 (limb 3 A)] := Box.call hb (by repeat (first | with_reducible assumption | with_reducible apply Box.set10 | with_reducible apply Box.set20 | with_reducible apply Box.set21 | with_reducible apply Box.set40 | with_reducible apply Box.set41 | with_reducible apply Box.set42 | with_reducible apply Box.set43 | with_reducible apply Box.set50 | with_reducible apply Box.set51 | with_reducible apply Box.set52 | with_reducible apply Box.set53 | with_reducible apply Box.set54 | with_reducible apply Box.drew | (with_reducible apply Box.newAt; (try simp only [World.size_alloc, World.size_setCell, World.size_drew]); done) | with_reducible apply Box.alloc | (with_reducible apply Box.other; case hne => ((try simp only [World.size_alloc, World.size_setCell, World.size_drew]); omega))))
  have Bb' : Box w2 (w.heap.size + 1) #[.int .u64 (limb 0 A), .int .u64 (limb 1 A), .int .u64 (limb 2 A), .int .u64 (limb 3 A)] := Box.call hb (by repeat (first | with_reducible assumption | with_reducible apply Box.set10 | with_reducible apply Box.set20 | with_reducible apply Box.set21 | with_reducible apply Box.set40 | with_reducible apply Box.set41 | with_reducible apply Box.set42 | with_reducible apply Box.set43 | with_reducible apply Box.set50 | with_reducible apply Box.set51 | with_reducible apply Box.set52 | with_reducible apply Box.set53 | with_reducible apply Box.set54 | with_reducible apply Box.drew | (with_reducible apply Box.newAt; (try simp only [World.size_alloc, World.size_setCell, World.size_drew]); done) | with_reducible apply Box.alloc | (with_reducible apply Box.other; case hne => ((try simp only [World.size_alloc, World.size_setCell, World.size_drew]); omega))))
  have Bc' : Box w2 (w.heap.size + 1 + 1) #[.int .u64 (limb 0 C), .int .u64 (limb 1 C), .int .u64 (limb 2 C), .int .u64 (limb 3 C)] := Box.call hb (by repeat (first | with_reducible assumption | with_reducible apply Box.set10 | with_reducible apply Box.set20 | with_reducible apply Box.set21 | with_reducible apply Box.set40 | with_reducible apply Box.set41 | with_reducible apply Box.set42 | with_reducible apply Box.set43 | with_reducible apply Box.set50 | with_reducible apply Box.set51 | with_reducible apply Box.set52 | with_reducible apply Box.set53 | with_reducible apply Box.set54 | with_reducible apply Box.drew | (with_reducible apply Box.newAt; (try simp only [World.size_alloc, World.size_setCell, World.size_drew]); done) | with_reducible apply Box.alloc | (with_reducible apply Box.other; case hne => ((try simp only [World.size_alloc, World.size_setCell, World.size_drew]); omega))))
  have Bx' : Box w2 (w.heap.size + 1 + 1 + 1) #[.int .u64 (limb 1 X), .int .u64 (limb 0 X)] := Box.call hb (by repeat (first | with_reducible assumption | with_reducible apply Box.set10 | with_reducible apply Box.set20 | with_reducible apply Box.set21 | with_reducible apply Box.set40 | with_reducible apply Box.set41 | with_reducible apply Box.set42 | with_reducible apply Box.set43 | with_reducible apply Box.set50 | with_reducible apply Box.set51 | with_reducible apply Box.set52 | with_reducible apply Box.set53 | with_reducible apply Box.set54 | with_reducible apply Box.drew | (with_reducible apply Box.newAt; (try simp only [World.size_alloc, World.size_setCell, World.size_drew]); done) | with_reducible apply Box.alloc | (with_reducible apply Box.other; case hne => ((try simp only [World.size_alloc, World.size_setCell, World.size_drew]); omega))))
  have By' : Box w2 (w.heap.size + 1 + 1 + 1 + 1) #[.int .u64 (limb 1 Y), .int .u64 (limb 0 Y)] := Box.call hb (by repeat (first | with_reducible assumption | with_reducible apply Box.set10 | with_reducible apply Box.set20 | with_reducible apply Box.set21 | with_reducible apply Box.set40 | with_reducible apply Box.set41 | with_reducible apply Box.set42 | with_reducible apply Box.set43 | with_reducible apply Box.set50 | with_reducible apply Box.set51 | with_reducible apply Box.set52 | with_reducible apply Box.set53 | with_reducible apply Box.set54 | with_reducible apply Box.drew | (with_reducible apply Box.newAt; (try simp only [World.size_alloc, World.size_setCell, World.size_drew]); done) | with_reducible apply Box.alloc | (with_reducible apply Box.other; case hne => ((try simp only [World.size_alloc, World.size_setCell, World.size_drew]); omega))))
  have hk' : Kept w.heap.size w w2 := Kept.step (by repeat (first | with_reducible exact hk | with_reducible exact Kept.refl _ | with_reducible refine Kept.alloc ?_ _ | with_reducible refine Kept.drew ?_ | with_reducible refine Kept.setCell ?_ (by simp only [World.size_alloc, World.size_setCell, World.size_drew]; omega) _)) hb
  clear hk hb
  clear Ba Bal1 Bal2 Bal3 Baf Ba0 Ba1 Ba2 Ba3
  clear Bb Bbl1 Bbl2 Bbl3 Bbf Bb0 Bb1 Bb2 Bb3
  clear Bc Bcl1 Bcl2 Bcl3 Bcf Bc0 Bc1 Bc2 Bc3
  clear Bx Bxl1 Bxl2 Bxl3 Bxf Bx0 Bx1
  clear By Byl1 Byl2 Byl3 Byf By0 By1
  have Ba := Ba'
  clear Ba'
  have Bb := Bb'
  clear Bb'
  have Bc := Bc'
  clear Bc'
  have Bx := Bx'
  clear Bx'
  have By := By'
  clear By'
  have hk := hk'
  clear hk'
  have hz_w2 := hk.size
  have Bal := Ba.lt
  have Baf := Ba.free
  have Bal1 : w.heap.size < w2.heap.size + 1 := by omega
  have Bal2 : w.heap.size < w2.heap.size + 1 + 1 := by omega
  have Bal3 : w.heap.size < w2.heap.size + 1 + 1 + 1 := by omega
  have Ba0 := Ba.cell 0 _ rfl
  have Ba1 := Ba.cell 1 _ rfl
  have Ba2 := Ba.cell 2 _ rfl
  have Ba3 := Ba.cell 3 _ rfl
  have Bbl := Bb.lt
  have Bbf := Bb.free
  have Bbl1 : w.heap.size + 1 < w2.heap.size + 1 := by omega
  have Bbl2 : w.heap.size + 1 < w2.heap.size + 1 + 1 := by omega
  have Bbl3 : w.heap.size + 1 < w2.heap.size + 1 + 1 + 1 := by omega
  have Bb0 := Bb.cell 0 _ rfl
  have Bb1 := Bb.cell 1 _ rfl
  have Bb2 := Bb.cell 2 _ rfl
  have Bb3 := Bb.cell 3 _ rfl
  have Bcl := Bc.lt
  have Bcf := Bc.free
  have Bcl1 : w.heap.size + 1 + 1 < w2.heap.size + 1 := by omega
  have Bcl2 : w.heap.size + 1 + 1 < w2.heap.size + 1 + 1 := by omega
  have Bcl3 : w.heap.size + 1 + 1 < w2.heap.size + 1 + 1 + 1 := by omega
  have Bc0 := Bc.cell 0 _ rfl
  have Bc1 := Bc.cell 1 _ rfl
  have Bc2 := Bc.cell 2 _ rfl
  have Bc3 := Bc.cell 3 _ rfl
  have Bxl := Bx.lt
  have Bxf := Bx.free
  have Bxl1 : w.heap.size + 1 + 1 + 1 < w2.heap.size + 1 := by omega
  have Bxl2 : w.heap.size + 1 + 1 + 1 < w2.heap.size + 1 + 1 := by omega
  have Bxl3 : w.heap.size + 1 + 1 + 1 < w2.heap.size + 1 + 1 + 1 := by omega
  have Bx0 := Bx.cell 0 _ rfl
  have Bx1 := Bx.cell 1 _ rfl
  have Byl := By.lt
  have Byf := By.free
  have Byl1 : w.heap.size + 1 + 1 + 1 + 1 < w2.heap.size + 1 := by omega
  have Byl2 : w.heap.size + 1 + 1 + 1 + 1 < w2.heap.size + 1 + 1 := by omega
  have Byl3 : w.heap.size + 1 + 1 + 1 + 1 < w2.heap.size + 1 + 1 + 1 := by omega
  have By0 := By.cell 0 _ rfl
  have By1 := By.cell 1 _ rfl
  go_wp2_with fail
  (with_reducible refine (CmpW_at (IsWide.of hA) (IsWide.of hC) _).mono ?_)
  rintro e w3 ⟨rfl, hb⟩
  have Ba' : Box w3 (w.heap.size) #[.int .u64 (limb 0 A), .int .u64 (limb 1 A), .int .u64 (limb 2 A), .int .u64 (limb 3 A)] := Box.call hb (by repeat (first | with_reducible assumption | with_reducible apply Box.set10 | with_reducible apply Box.set20 | with_reducible apply Box.set21 | with_reducible apply Box.set40 | with_reducible apply Box.set41 | with_reducible apply Box.set42 | with_reducible apply Box.set43 | with_reducible apply Box.set50 | with_reducible apply Box.set51 | with_reducible apply Box.set52 | with_reducible apply Box.set53 | with_reducible apply Box.set54 | with_reducible apply Box.drew | (with_reducible apply Box.newAt; (try simp only [World.size_alloc, World.size_setCell, World.size_drew]); done) | with_reducible apply Box.alloc | (with_reducible apply Box.other; case hne => ((try simp only [World.size_alloc, World.size_setCell, World.size_drew]); omega))))
  have Bb' : Box w3 (w.heap.size + 1) #[.int .u64 (limb 0 A), .int .u64 (limb 1 A), .int .u64 (limb 2 A), .int .u64 (limb 3 A)] := Box.call hb (by repeat (first | with_reducible assumption | with_reducible apply Box.set10 | with_reducible apply Box.set20 | with_reducible apply Box.set21 | with_reducible apply Box.set40 | with_reducible apply Box.set41 | with_reducible apply Box.set42 | with_reducible apply Box.set43 | with_reducible apply Box.set50 | with_reducible apply Box.set51 | with_reducible apply Box.set52 | with_reducible apply Box.set53 | with_reducible apply Box.set54 | with_reducible apply Box.drew | (with_reducible apply Box.newAt; (try simp only [World.size_alloc, World.size_setCell, World.size_drew]); done) | with_reducible apply Box.alloc | (with_reducible apply Box.other; case hne => ((try simp only [World.size_alloc, World.size_setCell, World.size_drew]); omega))))
  have Bc' : Box w3 (w.heap.size + 1 + 1) #[.int .u64 (limb 0 C), .int .u64 (limb 1 C), .int .u64 (limb 2 C), .int .u64 (limb 3 C)] := Box.call hb (by repeat (first | with_reducible assumption | with_reducible apply Box.set10 | with_reducible apply Box.set20 | with_reducible apply Box.set21 | with_reducible apply Box.set40 | with_reducible apply Box.set41 | with_reducible apply Box.set42 | with_reducible apply Box.set43 | with_reducible apply Box.set50 | with_reducible apply Box.set51 | with_reducible apply Box.set52 | with_reducible apply Box.set53 | with_reducible apply Box.set54 | with_reducible apply Box.drew | (with_reducible apply Box.newAt; (try simp only [World.size_alloc, World.size_setCell, World.size_drew]); done) | with_reducible apply Box.alloc | (with_reducible apply Box.other; case hne => ((try simp only [World.size_alloc, World.size_setCell, World.size_drew]); omega))))
  have Bx' : Box w3 (w.heap.size + 1 + 1 + 1) #[.int .u64 (limb 1 X), .int .u64 (limb 0 X)] := Box.call hb (by repeat (first | with_reducible assumption | with_reducible apply Box.set10 | with_reducible apply Box.set20 | with_reducible apply Box.set21 | with_reducible apply Box.set40 | with_reducible apply Box.set41 | with_reducible apply Box.set42 | with_reducible apply Box.set43 | with_reducible apply Box.set50 | with_reducible apply Box.set51 | with_reducible apply Box.set52 | with_reducible apply Box.set53 | with_reducible apply Box.set54 | with_reducible apply Box.drew | (with_reducible apply Box.newAt; (try simp only [World.size_alloc, World.size_setCell, World.size_drew]); done) | with_reducible apply Box.alloc | (with_reducible apply Box.other; case hne => ((try simp only [World.size_alloc, World.size_setCell, World.size_drew]); omega))))
  have By' : Box w3 (w.heap.size + 1 + 1 + 1 + 1) #[.int .u64 (limb 1 Y), .int .u64 (limb 0 Y)] := Box.call hb (by repeat (first | with_reducible assumption | with_reducible apply Box.set10 | with_reducible apply Box.set20 | with_reducible apply Box.set21 | with_reducible apply Box.set40 | with_reducible apply Box.set41 | with_reducible apply Box.set42 | with_reducible apply Box.set43 | with_reducible apply Box.set50 | with_reducible apply Box.set51 | with_reducible apply Box.set52 | with_reducible apply Box.set53 | with_reducible apply Box.set54 | with_reducible apply Box.drew | (with_reducible apply Box.newAt; (try simp only [World.size_alloc, World.size_setCell, World.size_drew]); done) | with_reducible apply Box.alloc | (with_reducible apply Box.other; case hne => ((try simp only [World.size_alloc, World.size_setCell, World.size_drew]); omega))))
  have hk' : Kept w.heap.size w w3 := Kept.step (by repeat (first | with_reducible exact hk | with_reducible exact Kept.refl _ | with_reducible refine Kept.alloc ?_ _ | with_reducible refine Kept.drew ?_ | with_reducible refine Kept.setCell ?_ (by simp only [World.size_alloc, World.size_setCell, World.size_drew]; omega) _)) hb
  clear hk hb
  clear Ba Bal1 Bal2 Bal3 Baf Ba0 Ba1 Ba2 Ba3
  clear Bb Bbl1 Bbl2 Bbl3 Bbf Bb0 Bb1 Bb2 Bb3
  clear Bc Bcl1 Bcl2 Bcl3 Bcf Bc0 Bc1 Bc2 Bc3
  clear Bx Bxl1 Bxl2 Bxl3 Bxf Bx0 Bx1
  clear By Byl1 Byl2 Byl3 Byf By0 By1
  have Ba := Ba'
  clear Ba'
  have Bb := Bb'
  clear Bb'
  have Bc := Bc'
  clear Bc'
  have Bx := Bx'
  clear Bx'
  have By := By'
  clear By'
  have hk := hk'
  clear hk'
  have hz_w3 := hk.size
  have Bal := Ba.lt
  have Baf := Ba.free
  have Bal1 : w.heap.size < w3.heap.size + 1 := by omega
  have Bal2 : w.heap.size < w3.heap.size + 1 + 1 := by omega
  have Bal3 : w.heap.size < w3.heap.size + 1 + 1 + 1 := by omega
  have Ba0 := Ba.cell 0 _ rfl
  have Ba1 := Ba.cell 1 _ rfl
  have Ba2 := Ba.cell 2 _ rfl
  have Ba3 := Ba.cell 3 _ rfl
  have Bbl := Bb.lt
  have Bbf := Bb.free
  have Bbl1 : w.heap.size + 1 < w3.heap.size + 1 := by omega
  have Bbl2 : w.heap.size + 1 < w3.heap.size + 1 + 1 := by omega
  have Bbl3 : w.heap.size + 1 < w3.heap.size + 1 + 1 + 1 := by omega
  have Bb0 := Bb.cell 0 _ rfl
  have Bb1 := Bb.cell 1 _ rfl
  have Bb2 := Bb.cell 2 _ rfl
  have Bb3 := Bb.cell 3 _ rfl
  have Bcl := Bc.lt
  have Bcf := Bc.free
  have Bcl1 : w.heap.size + 1 + 1 < w3.heap.size + 1 := by omega
  have Bcl2 : w.heap.size + 1 + 1 < w3.heap.size + 1 + 1 := by omega
  have Bcl3 : w.heap.size + 1 + 1 < w3.heap.size + 1 + 1 + 1 := by omega
  have Bc0 := Bc.cell 0 _ rfl
  have Bc1 := Bc.cell 1 _ rfl
  have Bc2 := Bc.cell 2 _ rfl
  have Bc3 := Bc.cell 3 _ rfl
  have Bxl := Bx.lt
  have Bxf := Bx.free
  have Bxl1 : w.heap.size + 1 + 1 + 1 < w3.heap.size + 1 := by omega
  have Bxl2 : w.heap.size + 1 + 1 + 1 < w3.heap.size + 1 + 1 := by omega
  have Bxl3 : w.heap.size + 1 + 1 + 1 < w3.heap.size + 1 + 1 + 1 := by omega
  have Bx0 := Bx.cell 0 _ rfl
  have Bx1 := Bx.cell 1 _ rfl
  have Byl := By.lt
  have Byf := By.free
  have Byl1 : w.heap.size + 1 + 1 + 1 + 1 < w3.heap.size + 1 := by omega
  have Byl2 : w.heap.size + 1 + 1 + 1 + 1 < w3.heap.size + 1 + 1 := by omega
  have Byl3 : w.heap.size + 1 + 1 + 1 + 1 < w3.heap.size + 1 + 1 + 1 := by omega
  have By0 := By.cell 0 _ rfl
  have By1 := By.cell 1 _ rfl
  go_wp2
  refine wp_region_num 12 (fun W' => Kept w.heap.size w W' ∧ Box W' (w.heap.size) #[.int .u64 (limb 0 A), .int .u64 (limb 1 A), .int .u64 (limb 2 A), .int .u64 (limb 3 A)] ∧ Box W' (w.heap.size + 1) #[.int .u64 (limb 0 A), .int .u64 (limb 1 A), .int .u64 (limb 2 A), .int .u64 (limb 3 A)] ∧ Box W' (w.heap.size + 1 + 1) #[.int .u64 (limb 0 C), .int .u64 (limb 1 C), .int .u64 (limb 2 C), .int .u64 (limb 3 C)] ∧ Box W' (w.heap.size + 1 + 1 + 1) #[.int .u64 (limb 1 X), .int .u64 (limb 0 X)] ∧ Box W' (w.heap.size + 1 + 1 + 1 + 1) #[.int .u64 (limb 1 Y), .int .u64 (limb 0 Y)]) [.known (bitsV X), .known (wideV X), .known (bitsV Y), .known (wideV Y), .known (.int .i64 (cmpN X Y)), .known (bitsV X), .known (bitsV Y), .known (.int .i64 (cmpN X Y)), .known (.bool true), .known (.bool true), .known (.bool true), .known (.bool true)] (by kernel_rfl) (by kernel_rfl) (fun W W' h hb => ⟨(h.1).step hb, Box.call hb (h.2.1), Box.call hb (h.2.2.1), Box.call hb (h.2.2.2.1), Box.call hb (h.2.2.2.2.1), Box.call hb (h.2.2.2.2.2)⟩) (⟨(by repeat (first | with_reducible exact hk | with_reducible exact Kept.refl _ | with_reducible refine Kept.alloc ?_ _ | with_reducible refine Kept.drew ?_ | with_reducible refine Kept.setCell ?_ (by simp only [World.size_alloc, World.size_setCell, World.size_drew]; omega) _)), (by repeat (first | with_reducible assumption | with_reducible apply Box.set10 | with_reducible apply Box.set20 | with_reducible apply Box.set21 | with_reducible apply Box.set40 | with_reducible apply Box.set41 | with_reducible apply Box.set42 | with_reducible apply Box.set43 | with_reducible apply Box.set50 | with_reducible apply Box.set51 | with_reducible apply Box.set52 | with_reducible apply Box.set53 | with_reducible apply Box.set54 | with_reducible apply Box.drew | (with_reducible apply Box.newAt; (try simp only [World.size_alloc, World.size_setCell, World.size_drew]); done) | with_reducible apply Box.alloc | (with_reducible apply Box.other; case hne => ((try simp only [World.size_alloc, World.size_setCell, World.size_drew]); omega)))), (by repeat (first | with_reducible assumption | with_reducible apply Box.set10 | with_reducible apply Box.set20 | with_reducible apply Box.set21 | with_reducible apply Box.set40 | with_reducible apply Box.set41 | with_reducible apply Box.set42 | with_reducible apply Box.set43 | with_reducible apply Box.set50 | with_reducible apply Box.set51 | with_reducible apply Box.set52 | with_reducible apply Box.set53 | with_reducible apply Box.set54 | with_reducible apply Box.drew | (with_reducible apply Box.newAt; (try simp only [World.size_alloc, World.size_setCell, World.size_drew]); done) | with_reducible apply Box.alloc | (with_reducible apply Box.other; case hne => ((try simp only [World.size_alloc, World.size_setCell, World.size_drew]); omega)))), (by repeat (first | with_reducible assumption | with_reducible apply Box.set10 | with_reducible apply Box.set20 | with_reducible apply Box.set21 | with_reducible apply Box.set40 | with_reducible apply Box.set41 | with_reducible apply Box.set42 | with_reducible apply Box.set43 | with_reducible apply Box.set50 | with_reducible apply Box.set51 | with_reducible apply Box.set52 | with_reducible apply Box.set53 | with_reducible apply Box.set54 | with_reducible apply Box.drew | (with_reducible apply Box.newAt; (try simp only [World.size_alloc, World.size_setCell, World.size_drew]); done) | with_reducible apply Box.alloc | (with_reducible apply Box.other; case hne => ((try simp only [World.size_alloc, World.size_setCell, World.size_drew]); omega)))), (by repeat (first | with_reducible assumption | with_reducible apply Box.set10 | with_reducible apply Box.set20 | with_reducible apply Box.set21 | with_reducible apply Box.set40 | with_reducible apply Box.set41 | with_reducible apply Box.set42 | with_reducible apply Box.set43 | with_reducible apply Box.set50 | with_reducible apply Box.set51 | with_reducible apply Box.set52 | with_reducible apply Box.set53 | with_reducible apply Box.set54 | with_reducible apply Box.drew | (with_reducible apply Box.newAt; (try simp only [World.size_alloc, World.size_setCell, World.size_drew]); done) | with_reducible apply Box.alloc | (with_reducible apply Box.other; case hne => ((try simp only [World.size_alloc, World.size_setCell, World.size_drew]); omega)))), (by repeat (first | with_reducible assumption | with_reducible apply Box.set10 | with_reducible apply Box.set20 | with_reducible apply Box.set21 | with_reducible apply Box.set40 | with_reducible apply Box.set41 | with_reducible apply Box.set42 | with_reducible apply Box.set43 | with_reducible apply Box.set50 | with_reducible apply Box.set51 | with_reducible apply Box.set52 | with_reducible apply Box.set53 | with_reducible apply Box.set54 | with_reducible apply Box.drew | (with_reducible apply Box.newAt; (try simp only [World.size_alloc, World.size_setCell, World.size_drew]); done) | with_reducible apply Box.alloc | (with_reducible apply Box.other; case hne => ((try simp only [World.size_alloc, World.size_setCell, World.size_drew]); omega))))⟩) ?_
  clear hk
  clear Ba Bal1 Bal2 Bal3 Baf Ba0 Ba1 Ba2 Ba3
  clear Bb Bbl1 Bbl2 Bbl3 Bbf Bb0 Bb1 Bb2 Bb3
  clear Bc Bcl1 Bcl2 Bcl3 Bcf Bc0 Bc1 Bc2 Bc3
  clear Bx Bxl1 Bxl2 Bxl3 Bxf Bx0 Bx1
  clear By Byl1 Byl2 Byl3 Byf By0 By1
  intro ρ
  simp only [List.take_succ_cons, List.take_zero, List.drop_succ_cons, List.drop_zero]
  refine ⟨?_, ?_⟩
  · intro w hS hD
    have Q := (hS.2.2.2.2.1).cell
    have q0 := Q 0 _ rfl
    have q1 := Q 1 _ rfl
    clear Q hS hD
    refine n_val (by rfl) (by rfl) ?_
    go_simp; first | done | with_reducible rfl
  simp only [Act.put, planV, List.setIfInBounds_toArray, List.set_cons_zero, List.set_cons_succ, List.getElem?_cons_zero, List.getElem?_cons_succ]
  refine ⟨?_, ?_⟩
  · intro w hS hD
    clear hS hD
    refine n_call ?_ ?_ (by rfl) (by rfl) ?_ ?_
    rotate_left 2
    · go_simp; first | done | with_reducible rfl | (constructor <;> with_reducible rfl)
    · refine Of_at (IsBits.of hX) _
  simp only [Act.put, planV, List.setIfInBounds_toArray, List.set_cons_zero, List.set_cons_succ, List.getElem?_cons_zero, List.getElem?_cons_succ]
  refine ⟨?_, ?_⟩
  · intro w hS hD
    have Q := (hS.2.2.2.2.2).cell
    have q0 := Q 0 _ rfl
    have q1 := Q 1 _ rfl
    clear Q hS hD
    refine n_val (by rfl) (by rfl) ?_
    go_simp; first | done | with_reducible rfl
  simp only [Act.put, planV, List.setIfInBounds_toArray, List.set_cons_zero, List.set_cons_succ, List.getElem?_cons_zero, List.getElem?_cons_succ]
  refine ⟨?_, ?_⟩
  · intro w hS hD
    clear hS hD
    refine n_call ?_ ?_ (by rfl) (by rfl) ?_ ?_
    rotate_left 2
    · go_simp; first | done | with_reducible rfl | (constructor <;> with_reducible rfl)
    · refine Of_at (IsBits.of hY) _
  simp only [Act.put, planV, List.setIfInBounds_toArray, List.set_cons_zero, List.set_cons_succ, List.getElem?_cons_zero, List.getElem?_cons_succ]
  refine ⟨?_, ?_⟩
  · intro w hS hD
    clear hS hD
    refine n_call ?_ ?_ (by rfl) (by rfl) ?_ ?_
    rotate_left 2
    · go_simp; first | done | with_reducible rfl | (constructor <;> with_reducible rfl)
    · refine CmpW_at (IsWide.of (w128_256 hX)) (IsWide.of (w128_256 hY)) _
  simp only [Act.put, planV, List.setIfInBounds_toArray, List.set_cons_zero, List.set_cons_succ, List.getElem?_cons_zero, List.getElem?_cons_succ]
  refine ⟨?_, ?_⟩
  · intro w hS hD
    have Q := (hS.2.2.2.2.1).cell
    have q0 := Q 0 _ rfl
    have q1 := Q 1 _ rfl
    clear Q hS hD
    refine n_val (by rfl) (by rfl) ?_
    go_simp; first | done | with_reducible rfl
  simp only [Act.put, planV, List.setIfInBounds_toArray, List.set_cons_zero, List.set_cons_succ, List.getElem?_cons_zero, List.getElem?_cons_succ]
  refine ⟨?_, ?_⟩
  · intro w hS hD
    have Q := (hS.2.2.2.2.2).cell
    have q0 := Q 0 _ rfl
    have q1 := Q 1 _ rfl
    clear Q hS hD
    refine n_val (by rfl) (by rfl) ?_
    go_simp; first | done | with_reducible rfl
  simp only [Act.put, planV, List.setIfInBounds_toArray, List.set_cons_zero, List.set_cons_succ, List.getElem?_cons_zero, List.getElem?_cons_succ]
  refine ⟨?_, ?_⟩
  · intro w hS hD
    clear hS hD
    refine n_call ?_ ?_ (by rfl) (by rfl) ?_ ?_
    rotate_left 2
    · go_simp; first | done | with_reducible rfl | (constructor <;> with_reducible rfl)
    · refine Cmp_at (IsBits.of hX) (IsBits.of hY) _
  simp only [Act.put, planV, List.setIfInBounds_toArray, List.set_cons_zero, List.set_cons_succ, List.getElem?_cons_zero, List.getElem?_cons_succ]
  refine ⟨?_, ?_⟩
  · intro w hS hD
    clear hS hD
    refine n_val (by rfl) (by rfl) ?_
    go_simp; first | done | with_reducible rfl | rfl
  simp only [Act.put, planV, List.setIfInBounds_toArray, List.set_cons_zero, List.set_cons_succ, List.getElem?_cons_zero, List.getElem?_cons_succ]
  refine ⟨?_, ?_⟩
  · intro w hS hD
    clear hS hD
    refine n_val (by rfl) (by rfl) ?_
    go_simp; first | done | with_reducible rfl | rfl
  simp only [Act.put, planV, List.setIfInBounds_toArray, List.set_cons_zero, List.set_cons_succ, List.getElem?_cons_zero, List.getElem?_cons_succ]
  refine ⟨?_, ?_⟩
  · intro w hS hD
    clear hS hD
    refine n_call ?_ ?_ (by rfl) (by rfl) ?_ ?_
    rotate_left 2
    · go_simp; first | done | with_reducible rfl | (constructor <;> with_reducible rfl)
    · refine counts02_any _
  simp only [Act.put, planV, List.setIfInBounds_toArray, List.set_cons_zero, List.set_cons_succ, List.getElem?_cons_zero, List.getElem?_cons_succ]
  refine ⟨?_, ?_⟩
  · intro w hS hD
    clear hS hD
    refine n_val (by rfl) (by rfl) ?_
    go_simp; first | done | with_reducible rfl | rfl
  simp only [Act.put, planV, List.setIfInBounds_toArray, List.set_cons_zero, List.set_cons_succ, List.getElem?_cons_zero, List.getElem?_cons_succ]
  intro w4 hS hF
  change wpList _ _ _ _ _ _
  obtain ⟨hk, Ba, Bb, Bc, Bx, By⟩ := hS
  clear hF
  clear ρ
  have hz_w4 := hk.size
  have Bal := Ba.lt
  have Baf := Ba.free
  have Bal1 : w.heap.size < w4.heap.size + 1 := by omega
  have Bal2 : w.heap.size < w4.heap.size + 1 + 1 := by omega
  have Bal3 : w.heap.size < w4.heap.size + 1 + 1 + 1 := by omega
  have Ba0 := Ba.cell 0 _ rfl
  have Ba1 := Ba.cell 1 _ rfl
  have Ba2 := Ba.cell 2 _ rfl
  have Ba3 := Ba.cell 3 _ rfl
  have Bbl := Bb.lt
  have Bbf := Bb.free
  have Bbl1 : w.heap.size + 1 < w4.heap.size + 1 := by omega
  have Bbl2 : w.heap.size + 1 < w4.heap.size + 1 + 1 := by omega
  have Bbl3 : w.heap.size + 1 < w4.heap.size + 1 + 1 + 1 := by omega
  have Bb0 := Bb.cell 0 _ rfl
  have Bb1 := Bb.cell 1 _ rfl
  have Bb2 := Bb.cell 2 _ rfl
  have Bb3 := Bb.cell 3 _ rfl
  have Bcl := Bc.lt
  have Bcf := Bc.free
  have Bcl1 : w.heap.size + 1 + 1 < w4.heap.size + 1 := by omega
  have Bcl2 : w.heap.size + 1 + 1 < w4.heap.size + 1 + 1 := by omega
  have Bcl3 : w.heap.size + 1 + 1 < w4.heap.size + 1 + 1 + 1 := by omega
  have Bc0 := Bc.cell 0 _ rfl
  have Bc1 := Bc.cell 1 _ rfl
  have Bc2 := Bc.cell 2 _ rfl
  have Bc3 := Bc.cell 3 _ rfl
  have Bxl := Bx.lt
  have Bxf := Bx.free
  have Bxl1 : w.heap.size + 1 + 1 + 1 < w4.heap.size + 1 := by omega
  have Bxl2 : w.heap.size + 1 + 1 + 1 < w4.heap.size + 1 + 1 := by omega
  have Bxl3 : w.heap.size + 1 + 1 + 1 < w4.heap.size + 1 + 1 + 1 := by omega
  have Bx0 := Bx.cell 0 _ rfl
  have Bx1 := Bx.cell 1 _ rfl
  have Byl := By.lt
  have Byf := By.free
  have Byl1 : w.heap.size + 1 + 1 + 1 + 1 < w4.heap.size + 1 := by omega
  have Byl2 : w.heap.size + 1 + 1 + 1 + 1 < w4.heap.size + 1 + 1 := by omega
  have Byl3 : w.heap.size + 1 + 1 + 1 + 1 < w4.heap.size + 1 + 1 + 1 := by omega
  have By0 := By.cell 0 _ rfl
  have By1 := By.cell 1 _ rfl
  go_wp2
  go_ret
  exact ⟨rfl, (by refine Kept.below ?_; repeat (first | with_reducible exact hk | with_reducible exact Kept.refl _ | with_reducible refine Kept.alloc ?_ _ | with_reducible refine Kept.drew ?_ | with_reducible refine Kept.setCell ?_ (by simp only [World.size_alloc, World.size_setCell, World.size_drew]; omega) _))⟩

set_option maxRecDepth 100000 in
set_option maxHeartbeats 8000000 in
theorem WideOrder_eq2 {A C X Y : Nat} (hA : W256 A) (hC : W256 C) (hX : W128 X) (hY : W128 Y) (hz : C < A) (w : World) :
    Calls Try.prog 15 #[wideV A, wideV A, wideV C, bitsV X, bitsV Y] w fun e w' => e = .returned (.bool true) ∧ Below w.heap.size w w' := by
  have hk := Kept.refl w
  have f1 := cmp_eq A
  have f3 := cmp_gt hz
  have f5 := lt_false (Nat.le_refl A)
  clear hz
  go_enter Try.func15, Try.ntmps15
  go_wp2
  refine wp_region_num 9 (fun W' => Kept w.heap.size w W' ∧ Box W' (w.heap.size) #[.int .u64 (limb 0 A), .int .u64 (limb 1 A), .int .u64 (limb 2 A), .int .u64 (limb 3 A)] ∧ Box W' (w.heap.size + 1) #[.int .u64 (limb 0 A), .int .u64 (limb 1 A), .int .u64 (limb 2 A), .int .u64 (limb 3 A)] ∧ Box W' (w.heap.size + 1 + 1) #[.int .u64 (limb 0 C), .int .u64 (limb 1 C), .int .u64 (limb 2 C), .int .u64 (limb 3 C)] ∧ Box W' (w.heap.size + 1 + 1 + 1) #[.int .u64 (limb 1 X), .int .u64 (limb 0 X)] ∧ Box W' (w.heap.size + 1 + 1 + 1 + 1) #[.int .u64 (limb 1 Y), .int .u64 (limb 0 Y)]) [.known (wideV A), .known (wideV A), .known (.int .i64 (cmpN A A)), .known (wideV A), .known (wideV A), .known (.int .i64 (cmpN A A)), .known (wideV A), .known (wideV C), .known (.int .i64 (cmpN A C))] (by kernel_rfl) (by kernel_rfl) (fun W W' h hb => ⟨(h.1).step hb, Box.call hb (h.2.1), Box.call hb (h.2.2.1), Box.call hb (h.2.2.2.1), Box.call hb (h.2.2.2.2.1), Box.call hb (h.2.2.2.2.2)⟩) (⟨(by repeat (first | with_reducible exact hk | with_reducible exact Kept.refl _ | with_reducible refine Kept.alloc ?_ _ | with_reducible refine Kept.drew ?_ | with_reducible refine Kept.setCell ?_ (by simp only [World.size_alloc, World.size_setCell, World.size_drew]; omega) _)), (by repeat (first | with_reducible assumption | with_reducible apply Box.set10 | with_reducible apply Box.set20 | with_reducible apply Box.set21 | with_reducible apply Box.set40 | with_reducible apply Box.set41 | with_reducible apply Box.set42 | with_reducible apply Box.set43 | with_reducible apply Box.set50 | with_reducible apply Box.set51 | with_reducible apply Box.set52 | with_reducible apply Box.set53 | with_reducible apply Box.set54 | with_reducible apply Box.drew | (with_reducible apply Box.newAt; (try simp only [World.size_alloc, World.size_setCell, World.size_drew]); done) | with_reducible apply Box.alloc | (with_reducible apply Box.other; case hne => ((try simp only [World.size_alloc, World.size_setCell, World.size_drew]); omega)))), (by repeat (first | with_reducible assumption | with_reducible apply Box.set10 | with_reducible apply Box.set20 | with_reducible apply Box.set21 | with_reducible apply Box.set40 | with_reducible apply Box.set41 | with_reducible apply Box.set42 | with_reducible apply Box.set43 | with_reducible apply Box.set50 | with_reducible apply Box.set51 | with_reducible apply Box.set52 | with_reducible apply Box.set53 | with_reducible apply Box.set54 | with_reducible apply Box.drew | (with_reducible apply Box.newAt; (try simp only [World.size_alloc, World.size_setCell, World.size_drew]); done) | with_reducible apply Box.alloc | (with_reducible apply Box.other; case hne => ((try simp only [World.size_alloc, World.size_setCell, World.size_drew]); omega)))), (by repeat (first | with_reducible assumption | with_reducible apply Box.set10 | with_reducible apply Box.set20 | with_reducible apply Box.set21 | with_reducible apply Box.set40 | with_reducible apply Box.set41 | with_reducible apply Box.set42 | with_reducible apply Box.set43 | with_reducible apply Box.set50 | with_reducible apply Box.set51 | with_reducible apply Box.set52 | with_reducible apply Box.set53 | with_reducible apply Box.set54 | with_reducible apply Box.drew | (with_reducible apply Box.newAt; (try simp only [World.size_alloc, World.size_setCell, World.size_drew]); done) | with_reducible apply Box.alloc | (with_reducible apply Box.other; case hne => ((try simp only [World.size_alloc, World.size_setCell, World.size_drew]); omega)))), (by repeat (first | with_reducible assumption | with_reducible apply Box.set10 | with_reducible apply Box.set20 | with_reducible apply Box.set21 | with_reducible apply Box.set40 | with_reducible apply Box.set41 | with_reducible apply Box.set42 | with_reducible apply Box.set43 | with_reducible apply Box.set50 | with_reducible apply Box.set51 | with_reducible apply Box.set52 | with_reducible apply Box.set53 | with_reducible apply Box.set54 | with_reducible apply Box.drew | (with_reducible apply Box.newAt; (try simp only [World.size_alloc, World.size_setCell, World.size_drew]); done) | with_reducible apply Box.alloc | (with_reducible apply Box.other; case hne => ((try simp only [World.size_alloc, World.size_setCell, World.size_drew]); omega)))), (by repeat (first | with_reducible assumption | with_reducible apply Box.set10 | with_reducible apply Box.set20 | with_reducible apply Box.set21 | with_reducible apply Box.set40 | with_reducible apply Box.set41 | with_reducible apply Box.set42 | with_reducible apply Box.set43 | with_reducible apply Box.set50 | with_reducible apply Box.set51 | with_reducible apply Box.set52 | with_reducible apply Box.set53 | with_reducible apply Box.set54 | with_reducible apply Box.drew | (with_reducible apply Box.newAt; (try simp only [World.size_alloc, World.size_setCell, World.size_drew]); done) | with_reducible apply Box.alloc | (with_reducible apply Box.other; case hne => ((try simp only [World.size_alloc, World.size_setCell, World.size_drew]); omega))))⟩) ?_
  clear hk
  intro ρ
  simp only [List.take_succ_cons, List.take_zero, List.drop_succ_cons, List.drop_zero]
  refine ⟨?_, ?_⟩
  · intro w hS hD
    have Q := (hS.2.1).cell
    have q0 := Q 0 _ rfl
    have q1 := Q 1 _ rfl
    have q2 := Q 2 _ rfl
    have q3 := Q 3 _ rfl
    clear Q hS hD
    refine n_val (by rfl) (by rfl) ?_
    go_simp; first | done | with_reducible rfl
  simp only [Act.put, planV, List.setIfInBounds_toArray, List.set_cons_zero, List.set_cons_succ, List.getElem?_cons_zero, List.getElem?_cons_succ]
  refine ⟨?_, ?_⟩
  · intro w hS hD
    have Q := (hS.2.2.1).cell
    have q0 := Q 0 _ rfl
    have q1 := Q 1 _ rfl
    have q2 := Q 2 _ rfl
    have q3 := Q 3 _ rfl
    clear Q hS hD
    refine n_val (by rfl) (by rfl) ?_
    go_simp; first | done | with_reducible rfl
  simp only [Act.put, planV, List.setIfInBounds_toArray, List.set_cons_zero, List.set_cons_succ, List.getElem?_cons_zero, List.getElem?_cons_succ]
  refine ⟨?_, ?_⟩
  · intro w hS hD
    clear hS hD
    refine n_call ?_ ?_ (by rfl) (by rfl) ?_ ?_
    rotate_left 2
    · go_simp; first | done | with_reducible rfl | (constructor <;> with_reducible rfl)
    · refine CmpW_at (IsWide.of hA) (IsWide.of hA) _
  simp only [Act.put, planV, List.setIfInBounds_toArray, List.set_cons_zero, List.set_cons_succ, List.getElem?_cons_zero, List.getElem?_cons_succ]
  refine ⟨?_, ?_⟩
  · intro w hS hD
    have Q := (hS.2.2.1).cell
    have q0 := Q 0 _ rfl
    have q1 := Q 1 _ rfl
    have q2 := Q 2 _ rfl
    have q3 := Q 3 _ rfl
    clear Q hS hD
    refine n_val (by rfl) (by rfl) ?_
    go_simp; first | done | with_reducible rfl
  simp only [Act.put, planV, List.setIfInBounds_toArray, List.set_cons_zero, List.set_cons_succ, List.getElem?_cons_zero, List.getElem?_cons_succ]
  refine ⟨?_, ?_⟩
  · intro w hS hD
    have Q := (hS.2.1).cell
    have q0 := Q 0 _ rfl
    have q1 := Q 1 _ rfl
    have q2 := Q 2 _ rfl
    have q3 := Q 3 _ rfl
    clear Q hS hD
    refine n_val (by rfl) (by rfl) ?_
    go_simp; first | done | with_reducible rfl
  simp only [Act.put, planV, List.setIfInBounds_toArray, List.set_cons_zero, List.set_cons_succ, List.getElem?_cons_zero, List.getElem?_cons_succ]
  refine ⟨?_, ?_⟩
  · intro w hS hD
    clear hS hD
    refine n_call ?_ ?_ (by rfl) (by rfl) ?_ ?_
    rotate_left 2
    · go_simp; first | done | with_reducible rfl | (constructor <;> with_reducible rfl)
    · refine CmpW_at (IsWide.of hA) (IsWide.of hA) _
  simp only [Act.put, planV, List.setIfInBounds_toArray, List.set_cons_zero, List.set_cons_succ, List.getElem?_cons_zero, List.getElem?_cons_succ]
  refine ⟨?_, ?_⟩
  · intro w hS hD
    have Q := (hS.2.2.1).cell
    have q0 := Q 0 _ rfl
    have q1 := Q 1 _ rfl
    have q2 := Q 2 _ rfl
    have q3 := Q 3 _ rfl
    clear Q hS hD
    refine n_val (by rfl) (by rfl) ?_
    go_simp; first | done | with_reducible rfl
  simp only [Act.put, planV, List.setIfInBounds_toArray, List.set_cons_zero, List.set_cons_succ, List.getElem?_cons_zero, List.getElem?_cons_succ]
  refine ⟨?_, ?_⟩
  · intro w hS hD
    have Q := (hS.2.2.2.1).cell
    have q0 := Q 0 _ rfl
    have q1 := Q 1 _ rfl
    have q2 := Q 2 _ rfl
    have q3 := Q 3 _ rfl
    clear Q hS hD
    refine n_val (by rfl) (by rfl) ?_
    go_simp; first | done | with_reducible rfl
  simp only [Act.put, planV, List.setIfInBounds_toArray, List.set_cons_zero, List.set_cons_succ, List.getElem?_cons_zero, List.getElem?_cons_succ]
  refine ⟨?_, ?_⟩
  · intro w hS hD
    clear hS hD
    refine n_call ?_ ?_ (by rfl) (by rfl) ?_ ?_
    rotate_left 2
    · go_simp; first | done | with_reducible rfl | (constructor <;> with_reducible rfl)
    · refine CmpW_at (IsWide.of hA) (IsWide.of hC) _
  simp only [Act.put, planV, List.setIfInBounds_toArray, List.set_cons_zero, List.set_cons_succ, List.getElem?_cons_zero, List.getElem?_cons_succ]
  intro w1 hS hF
  change wpList _ _ _ _ _ _
  obtain ⟨hk, Ba, Bb, Bc, Bx, By⟩ := hS
  clear hF
  clear ρ
  have hz_w1 := hk.size
  have Bal := Ba.lt
  have Baf := Ba.free
  have Bal1 : w.heap.size < w1.heap.size + 1 := by omega
  have Bal2 : w.heap.size < w1.heap.size + 1 + 1 := by omega
  have Bal3 : w.heap.size < w1.heap.size + 1 + 1 + 1 := by omega
  have Ba0 := Ba.cell 0 _ rfl
  have Ba1 := Ba.cell 1 _ rfl
  have Ba2 := Ba.cell 2 _ rfl
  have Ba3 := Ba.cell 3 _ rfl
  have Bbl := Bb.lt
  have Bbf := Bb.free
  have Bbl1 : w.heap.size + 1 < w1.heap.size + 1 := by omega
  have Bbl2 : w.heap.size + 1 < w1.heap.size + 1 + 1 := by omega
  have Bbl3 : w.heap.size + 1 < w1.heap.size + 1 + 1 + 1 := by omega
  have Bb0 := Bb.cell 0 _ rfl
  have Bb1 := Bb.cell 1 _ rfl
  have Bb2 := Bb.cell 2 _ rfl
  have Bb3 := Bb.cell 3 _ rfl
  have Bcl := Bc.lt
  have Bcf := Bc.free
  have Bcl1 : w.heap.size + 1 + 1 < w1.heap.size + 1 := by omega
  have Bcl2 : w.heap.size + 1 + 1 < w1.heap.size + 1 + 1 := by omega
  have Bcl3 : w.heap.size + 1 + 1 < w1.heap.size + 1 + 1 + 1 := by omega
  have Bc0 := Bc.cell 0 _ rfl
  have Bc1 := Bc.cell 1 _ rfl
  have Bc2 := Bc.cell 2 _ rfl
  have Bc3 := Bc.cell 3 _ rfl
  have Bxl := Bx.lt
  have Bxf := Bx.free
  have Bxl1 : w.heap.size + 1 + 1 + 1 < w1.heap.size + 1 := by omega
  have Bxl2 : w.heap.size + 1 + 1 + 1 < w1.heap.size + 1 + 1 := by omega
  have Bxl3 : w.heap.size + 1 + 1 + 1 < w1.heap.size + 1 + 1 + 1 := by omega
  have Bx0 := Bx.cell 0 _ rfl
  have Bx1 := Bx.cell 1 _ rfl
  have Byl := By.lt
  have Byf := By.free
  have Byl1 : w.heap.size + 1 + 1 + 1 + 1 < w1.heap.size + 1 := by omega
  have Byl2 : w.heap.size + 1 + 1 + 1 + 1 < w1.heap.size + 1 + 1 := by omega
  have Byl3 : w.heap.size + 1 + 1 + 1 + 1 < w1.heap.size + 1 + 1 + 1 := by omega
  have By0 := By.cell 0 _ rfl
  have By1 := By.cell 1 _ rfl
  go_wp2_with fail
  (with_reducible refine (SubW_at (IsWide.of hA) (IsWide.of hA) _).mono ?_)
  rintro e w2 ⟨rfl, hb⟩
  have Ba' : Box w2 (w.heap.size) #[.int .u64 (limb 0 A), .int .u64 (limb 1 A), .int .u64 (limb 2 A), .int .u64 (limb 3 A)] := Box.call hb (by repeat (first | with_reducible assumption | with_reducible apply Box.set10 | with_reducible apply Box.set20 | with_reducible apply Box.set21 | with_reducible apply Box.set40 | with_reducible apply Box.set41 | with_reducible apply Box.set42 | with_reducible apply Box.set43 | with_reducible apply Box.set50 | with_reducible apply Box.set51 | with_reducible apply Box.set52 | with_reducible apply Box.set53 | with_reducible apply Box.set54 | with_reducible apply Box.drew | (with_reducible apply Box.newAt; (try simp only [World.size_alloc, World.size_setCell, World.size_drew]); done) | with_reducible apply Box.alloc | (with_reducible apply Box.other; case hne => ((try simp only [World.size_alloc, World.size_setCell, World.size_drew]); omega))))
  have Bb' : Box w2 (w.heap.size + 1) #[.int .u64 (limb 0 A), .int .u64 (limb 1 A), .int .u64 (limb 2 A), .int .u64 (limb 3 A)] := Box.call hb (by repeat (first | with_reducible assumption | with_reducible apply Box.set10 | with_reducible apply Box.set20 | with_reducible apply Box.set21 | with_reducible apply Box.set40 | with_reducible apply Box.set41 | with_reducible apply Box.set42 | with_reducible apply Box.set43 | with_reducible apply Box.set50 | with_reducible apply Box.set51 | with_reducible apply Box.set52 | with_reducible apply Box.set53 | with_reducible apply Box.set54 | with_reducible apply Box.drew | (with_reducible apply Box.newAt; (try simp only [World.size_alloc, World.size_setCell, World.size_drew]); done) | with_reducible apply Box.alloc | (with_reducible apply Box.other; case hne => ((try simp only [World.size_alloc, World.size_setCell, World.size_drew]); omega))))
  have Bc' : Box w2 (w.heap.size + 1 + 1) #[.int .u64 (limb 0 C), .int .u64 (limb 1 C), .int .u64 (limb 2 C), .int .u64 (limb 3 C)] := Box.call hb (by repeat (first | with_reducible assumption | with_reducible apply Box.set10 | with_reducible apply Box.set20 | with_reducible apply Box.set21 | with_reducible apply Box.set40 | with_reducible apply Box.set41 | with_reducible apply Box.set42 | with_reducible apply Box.set43 | with_reducible apply Box.set50 | with_reducible apply Box.set51 | with_reducible apply Box.set52 | with_reducible apply Box.set53 | with_reducible apply Box.set54 | with_reducible apply Box.drew | (with_reducible apply Box.newAt; (try simp only [World.size_alloc, World.size_setCell, World.size_drew]); done) | with_reducible apply Box.alloc | (with_reducible apply Box.other; case hne => ((try simp only [World.size_alloc, World.size_setCell, World.size_drew]); omega))))
  have Bx' : Box w2 (w.heap.size + 1 + 1 + 1) #[.int .u64 (limb 1 X), .int .u64 (limb 0 X)] := Box.call hb (by repeat (first | with_reducible assumption | with_reducible apply Box.set10 | with_reducible apply Box.set20 | with_reducible apply Box.set21 | with_reducible apply Box.set40 | with_reducible apply Box.set41 | with_reducible apply Box.set42 | with_reducible apply Box.set43 | with_reducible apply Box.set50 | with_reducible apply Box.set51 | with_reducible apply Box.set52 | with_reducible apply Box.set53 | with_reducible apply Box.set54 | with_reducible apply Box.drew | (with_reducible apply Box.newAt; (try simp only [World.size_alloc, World.size_setCell, World.size_drew]); done) | with_reducible apply Box.alloc | (with_reducible apply Box.other; case hne => ((try simp only [World.size_alloc, World.size_setCell, World.size_drew]); omega))))
  have By' : Box w2 (w.heap.size + 1 + 1 + 1 + 1) #[.int .u64 (limb 1 Y), .int .u64 (limb 0 Y)] := Box.call hb (by repeat (first | with_reducible assumption | with_reducible apply Box.set10 | with_reducible apply Box.set20 | with_reducible apply Box.set21 | with_reducible apply Box.set40 | with_reducible apply Box.set41 | with_reducible apply Box.set42 | with_reducible apply Box.set43 | with_reducible apply Box.set50 | with_reducible apply Box.set51 | with_reducible apply Box.set52 | with_reducible apply Box.set53 | with_reducible apply Box.set54 | with_reducible apply Box.drew | (with_reducible apply Box.newAt; (try simp only [World.size_alloc, World.size_setCell, World.size_drew]); done) | with_reducible apply Box.alloc | (with_reducible apply Box.other; case hne => ((try simp only [World.size_alloc, World.size_setCell, World.size_drew]); omega))))
  have hk' : Kept w.heap.size w w2 := Kept.step (by repeat (first | with_reducible exact hk | with_reducible exact Kept.refl _ | with_reducible refine Kept.alloc ?_ _ | with_reducible refine Kept.drew ?_ | with_reducible refine Kept.setCell ?_ (by simp only [World.size_alloc, World.size_setCell, World.size_drew]; omega) _)) hb
  clear hk hb
  clear Ba Bal1 Bal2 Bal3 Baf Ba0 Ba1 Ba2 Ba3
  clear Bb Bbl1 Bbl2 Bbl3 Bbf Bb0 Bb1 Bb2 Bb3
  clear Bc Bcl1 Bcl2 Bcl3 Bcf Bc0 Bc1 Bc2 Bc3
  clear Bx Bxl1 Bxl2 Bxl3 Bxf Bx0 Bx1
  clear By Byl1 Byl2 Byl3 Byf By0 By1
  have Ba := Ba'
  clear Ba'
  have Bb := Bb'
  clear Bb'
  have Bc := Bc'
  clear Bc'
  have Bx := Bx'
  clear Bx'
  have By := By'
  clear By'
  have hk := hk'
  clear hk'
  have hz_w2 := hk.size
  have Bal := Ba.lt
  have Baf := Ba.free
  have Bal1 : w.heap.size < w2.heap.size + 1 := by omega
  have Bal2 : w.heap.size < w2.heap.size + 1 + 1 := by omega
  have Bal3 : w.heap.size < w2.heap.size + 1 + 1 + 1 := by omega
  have Ba0 := Ba.cell 0 _ rfl
  have Ba1 := Ba.cell 1 _ rfl
  have Ba2 := Ba.cell 2 _ rfl
  have Ba3 := Ba.cell 3 _ rfl
  have Bbl := Bb.lt
  have Bbf := Bb.free
  have Bbl1 : w.heap.size + 1 < w2.heap.size + 1 := by omega
  have Bbl2 : w.heap.size + 1 < w2.heap.size + 1 + 1 := by omega
  have Bbl3 : w.heap.size + 1 < w2.heap.size + 1 + 1 + 1 := by omega
  have Bb0 := Bb.cell 0 _ rfl
  have Bb1 := Bb.cell 1 _ rfl
  have Bb2 := Bb.cell 2 _ rfl
  have Bb3 := Bb.cell 3 _ rfl
  have Bcl := Bc.lt
  have Bcf := Bc.free
  have Bcl1 : w.heap.size + 1 + 1 < w2.heap.size + 1 := by omega
  have Bcl2 : w.heap.size + 1 + 1 < w2.heap.size + 1 + 1 := by omega
  have Bcl3 : w.heap.size + 1 + 1 < w2.heap.size + 1 + 1 + 1 := by omega
  have Bc0 := Bc.cell 0 _ rfl
  have Bc1 := Bc.cell 1 _ rfl
  have Bc2 := Bc.cell 2 _ rfl
  have Bc3 := Bc.cell 3 _ rfl
  have Bxl := Bx.lt
  have Bxf := Bx.free
  have Bxl1 : w.heap.size + 1 + 1 + 1 < w2.heap.size + 1 := by omega
  have Bxl2 : w.heap.size + 1 + 1 + 1 < w2.heap.size + 1 + 1 := by omega
  have Bxl3 : w.heap.size + 1 + 1 + 1 < w2.heap.size + 1 + 1 + 1 := by omega
  have Bx0 := Bx.cell 0 _ rfl
  have Bx1 := Bx.cell 1 _ rfl
  have Byl := By.lt
  have Byf := By.free
  have Byl1 : w.heap.size + 1 + 1 + 1 + 1 < w2.heap.size + 1 := by omega
  have Byl2 : w.heap.size + 1 + 1 + 1 + 1 < w2.heap.size + 1 + 1 := by omega
  have Byl3 : w.heap.size + 1 + 1 + 1 + 1 < w2.heap.size + 1 + 1 + 1 := by omega
  have By0 := By.cell 0 _ rfl
  have By1 := By.cell 1 _ rfl
  go_wp2
  refine wp_region_num 12 (fun W' => Kept w.heap.size w W' ∧ Box W' (w.heap.size) #[.int .u64 (limb 0 A), .int .u64 (limb 1 A), .int .u64 (limb 2 A), .int .u64 (limb 3 A)] ∧ Box W' (w.heap.size + 1) #[.int .u64 (limb 0 A), .int .u64 (limb 1 A), .int .u64 (limb 2 A), .int .u64 (limb 3 A)] ∧ Box W' (w.heap.size + 1 + 1) #[.int .u64 (limb 0 C), .int .u64 (limb 1 C), .int .u64 (limb 2 C), .int .u64 (limb 3 C)] ∧ Box W' (w.heap.size + 1 + 1 + 1) #[.int .u64 (limb 1 X), .int .u64 (limb 0 X)] ∧ Box W' (w.heap.size + 1 + 1 + 1 + 1) #[.int .u64 (limb 1 Y), .int .u64 (limb 0 Y)]) [.known (bitsV X), .known (wideV X), .known (bitsV Y), .known (wideV Y), .known (.int .i64 (cmpN X Y)), .known (bitsV X), .known (bitsV Y), .known (.int .i64 (cmpN X Y)), .known (.bool true), .known (.bool true), .known (.bool true), .known (.bool true)] (by kernel_rfl) (by kernel_rfl) (fun W W' h hb => ⟨(h.1).step hb, Box.call hb (h.2.1), Box.call hb (h.2.2.1), Box.call hb (h.2.2.2.1), Box.call hb (h.2.2.2.2.1), Box.call hb (h.2.2.2.2.2)⟩) (⟨(by repeat (first | with_reducible exact hk | with_reducible exact Kept.refl _ | with_reducible refine Kept.alloc ?_ _ | with_reducible refine Kept.drew ?_ | with_reducible refine Kept.setCell ?_ (by simp only [World.size_alloc, World.size_setCell, World.size_drew]; omega) _)), (by repeat (first | with_reducible assumption | with_reducible apply Box.set10 | with_reducible apply Box.set20 | with_reducible apply Box.set21 | with_reducible apply Box.set40 | with_reducible apply Box.set41 | with_reducible apply Box.set42 | with_reducible apply Box.set43 | with_reducible apply Box.set50 | with_reducible apply Box.set51 | with_reducible apply Box.set52 | with_reducible apply Box.set53 | with_reducible apply Box.set54 | with_reducible apply Box.drew | (with_reducible apply Box.newAt; (try simp only [World.size_alloc, World.size_setCell, World.size_drew]); done) | with_reducible apply Box.alloc | (with_reducible apply Box.other; case hne => ((try simp only [World.size_alloc, World.size_setCell, World.size_drew]); omega)))), (by repeat (first | with_reducible assumption | with_reducible apply Box.set10 | with_reducible apply Box.set20 | with_reducible apply Box.set21 | with_reducible apply Box.set40 | with_reducible apply Box.set41 | with_reducible apply Box.set42 | with_reducible apply Box.set43 | with_reducible apply Box.set50 | with_reducible apply Box.set51 | with_reducible apply Box.set52 | with_reducible apply Box.set53 | with_reducible apply Box.set54 | with_reducible apply Box.drew | (with_reducible apply Box.newAt; (try simp only [World.size_alloc, World.size_setCell, World.size_drew]); done) | with_reducible apply Box.alloc | (with_reducible apply Box.other; case hne => ((try simp only [World.size_alloc, World.size_setCell, World.size_drew]); omega)))), (by repeat (first | with_reducible assumption | with_reducible apply Box.set10 | with_reducible apply Box.set20 | with_reducible apply Box.set21 | with_reducible apply Box.set40 | with_reducible apply Box.set41 | with_reducible apply Box.set42 | with_reducible apply Box.set43 | with_reducible apply Box.set50 | with_reducible apply Box.set51 | with_reducible apply Box.set52 | with_reducible apply Box.set53 | with_reducible apply Box.set54 | with_reducible apply Box.drew | (with_reducible apply Box.newAt; (try simp only [World.size_alloc, World.size_setCell, World.size_drew]); done) | with_reducible apply Box.alloc | (with_reducible apply Box.other; case hne => ((try simp only [World.size_alloc, World.size_setCell, World.size_drew]); omega)))), (by repeat (first | with_reducible assumption | with_reducible apply Box.set10 | with_reducible apply Box.set20 | with_reducible apply Box.set21 | with_reducible apply Box.set40 | with_reducible apply Box.set41 | with_reducible apply Box.set42 | with_reducible apply Box.set43 | with_reducible apply Box.set50 | with_reducible apply Box.set51 | with_reducible apply Box.set52 | with_reducible apply Box.set53 | with_reducible apply Box.set54 | with_reducible apply Box.drew | (with_reducible apply Box.newAt; (try simp only [World.size_alloc, World.size_setCell, World.size_drew]); done) | with_reducible apply Box.alloc | (with_reducible apply Box.other; case hne => ((try simp only [World.size_alloc, World.size_setCell, World.size_drew]); omega)))), (by repeat (first | with_reducible assumption | with_reducible apply Box.set10 | with_reducible apply Box.set20 | with_reducible apply Box.set21 | with_reducible apply Box.set40 | with_reducible apply Box.set41 | with_reducible apply Box.set42 | with_reducible apply Box.set43 | with_reducible apply Box.set50 | with_reducible apply Box.set51 | with_reducible apply Box.set52 | with_reducible apply Box.set53 | with_reducible apply Box.set54 | with_reducible apply Box.drew | (with_reducible apply Box.newAt; (try simp only [World.size_alloc, World.size_setCell, World.size_drew]); done) | with_reducible apply Box.alloc | (with_reducible apply Box.other; case hne => ((try simp only [World.size_alloc, World.size_setCell, World.size_drew]); omega))))⟩) ?_
  clear hk
  clear Ba Bal1 Bal2 Bal3 Baf Ba0 Ba1 Ba2 Ba3
  clear Bb Bbl1 Bbl2 Bbl3 Bbf Bb0 Bb1 Bb2 Bb3
  clear Bc Bcl1 Bcl2 Bcl3 Bcf Bc0 Bc1 Bc2 Bc3
  clear Bx Bxl1 Bxl2 Bxl3 Bxf Bx0 Bx1
  clear By Byl1 Byl2 Byl3 Byf By0 By1
  intro ρ
  simp only [List.take_succ_cons, List.take_zero, List.drop_succ_cons, List.drop_zero]
  refine ⟨?_, ?_⟩
  · intro w hS hD
    have Q := (hS.2.2.2.2.1).cell
    have q0 := Q 0 _ rfl
    have q1 := Q 1 _ rfl
    clear Q hS hD
    refine n_val (by rfl) (by rfl) ?_
    go_simp; first | done | with_reducible rfl
  simp only [Act.put, planV, List.setIfInBounds_toArray, List.set_cons_zero, List.set_cons_succ, List.getElem?_cons_zero, List.getElem?_cons_succ]
  refine ⟨?_, ?_⟩
  · intro w hS hD
    clear hS hD
    refine n_call ?_ ?_ (by rfl) (by rfl) ?_ ?_
    rotate_left 2
    · go_simp; first | done | with_reducible rfl | (constructor <;> with_reducible rfl)
    · refine Of_at (IsBits.of hX) _
  simp only [Act.put, planV, List.setIfInBounds_toArray, List.set_cons_zero, List.set_cons_succ, List.getElem?_cons_zero, List.getElem?_cons_succ]
  refine ⟨?_, ?_⟩
  · intro w hS hD
    have Q := (hS.2.2.2.2.2).cell
    have q0 := Q 0 _ rfl
    have q1 := Q 1 _ rfl
    clear Q hS hD
    refine n_val (by rfl) (by rfl) ?_
    go_simp; first | done | with_reducible rfl
  simp only [Act.put, planV, List.setIfInBounds_toArray, List.set_cons_zero, List.set_cons_succ, List.getElem?_cons_zero, List.getElem?_cons_succ]
  refine ⟨?_, ?_⟩
  · intro w hS hD
    clear hS hD
    refine n_call ?_ ?_ (by rfl) (by rfl) ?_ ?_
    rotate_left 2
    · go_simp; first | done | with_reducible rfl | (constructor <;> with_reducible rfl)
    · refine Of_at (IsBits.of hY) _
  simp only [Act.put, planV, List.setIfInBounds_toArray, List.set_cons_zero, List.set_cons_succ, List.getElem?_cons_zero, List.getElem?_cons_succ]
  refine ⟨?_, ?_⟩
  · intro w hS hD
    clear hS hD
    refine n_call ?_ ?_ (by rfl) (by rfl) ?_ ?_
    rotate_left 2
    · go_simp; first | done | with_reducible rfl | (constructor <;> with_reducible rfl)
    · refine CmpW_at (IsWide.of (w128_256 hX)) (IsWide.of (w128_256 hY)) _
  simp only [Act.put, planV, List.setIfInBounds_toArray, List.set_cons_zero, List.set_cons_succ, List.getElem?_cons_zero, List.getElem?_cons_succ]
  refine ⟨?_, ?_⟩
  · intro w hS hD
    have Q := (hS.2.2.2.2.1).cell
    have q0 := Q 0 _ rfl
    have q1 := Q 1 _ rfl
    clear Q hS hD
    refine n_val (by rfl) (by rfl) ?_
    go_simp; first | done | with_reducible rfl
  simp only [Act.put, planV, List.setIfInBounds_toArray, List.set_cons_zero, List.set_cons_succ, List.getElem?_cons_zero, List.getElem?_cons_succ]
  refine ⟨?_, ?_⟩
  · intro w hS hD
    have Q := (hS.2.2.2.2.2).cell
    have q0 := Q 0 _ rfl
    have q1 := Q 1 _ rfl
    clear Q hS hD
    refine n_val (by rfl) (by rfl) ?_
    go_simp; first | done | with_reducible rfl
  simp only [Act.put, planV, List.setIfInBounds_toArray, List.set_cons_zero, List.set_cons_succ, List.getElem?_cons_zero, List.getElem?_cons_succ]
  refine ⟨?_, ?_⟩
  · intro w hS hD
    clear hS hD
    refine n_call ?_ ?_ (by rfl) (by rfl) ?_ ?_
    rotate_left 2
    · go_simp; first | done | with_reducible rfl | (constructor <;> with_reducible rfl)
    · refine Cmp_at (IsBits.of hX) (IsBits.of hY) _
  simp only [Act.put, planV, List.setIfInBounds_toArray, List.set_cons_zero, List.set_cons_succ, List.getElem?_cons_zero, List.getElem?_cons_succ]
  refine ⟨?_, ?_⟩
  · intro w hS hD
    clear hS hD
    refine n_val (by rfl) (by rfl) ?_
    go_simp; first | done | with_reducible rfl | rfl
  simp only [Act.put, planV, List.setIfInBounds_toArray, List.set_cons_zero, List.set_cons_succ, List.getElem?_cons_zero, List.getElem?_cons_succ]
  refine ⟨?_, ?_⟩
  · intro w hS hD
    clear hS hD
    refine n_val (by rfl) (by rfl) ?_
    go_simp; first | done | with_reducible rfl | rfl
  simp only [Act.put, planV, List.setIfInBounds_toArray, List.set_cons_zero, List.set_cons_succ, List.getElem?_cons_zero, List.getElem?_cons_succ]
  refine ⟨?_, ?_⟩
  · intro w hS hD
    clear hS hD
    refine n_call ?_ ?_ (by rfl) (by rfl) ?_ ?_
    rotate_left 2
    · go_simp; first | done | with_reducible rfl | (constructor <;> with_reducible rfl)
    · refine counts02_any _
  simp only [Act.put, planV, List.setIfInBounds_toArray, List.set_cons_zero, List.set_cons_succ, List.getElem?_cons_zero, List.getElem?_cons_succ]
  refine ⟨?_, ?_⟩
  · intro w hS hD
    clear hS hD
    refine n_val (by rfl) (by rfl) ?_
    go_simp; first | done | with_reducible rfl | rfl
  simp only [Act.put, planV, List.setIfInBounds_toArray, List.set_cons_zero, List.set_cons_succ, List.getElem?_cons_zero, List.getElem?_cons_succ]
  intro w3 hS hF
  change wpList _ _ _ _ _ _
  obtain ⟨hk, Ba, Bb, Bc, Bx, By⟩ := hS
  clear hF
  clear ρ
  have hz_w3 := hk.size
  have Bal := Ba.lt
  have Baf := Ba.free
  have Bal1 : w.heap.size < w3.heap.size + 1 := by omega
  have Bal2 : w.heap.size < w3.heap.size + 1 + 1 := by omega
  have Bal3 : w.heap.size < w3.heap.size + 1 + 1 + 1 := by omega
  have Ba0 := Ba.cell 0 _ rfl
  have Ba1 := Ba.cell 1 _ rfl
  have Ba2 := Ba.cell 2 _ rfl
  have Ba3 := Ba.cell 3 _ rfl
  have Bbl := Bb.lt
  have Bbf := Bb.free
  have Bbl1 : w.heap.size + 1 < w3.heap.size + 1 := by omega
  have Bbl2 : w.heap.size + 1 < w3.heap.size + 1 + 1 := by omega
  have Bbl3 : w.heap.size + 1 < w3.heap.size + 1 + 1 + 1 := by omega
  have Bb0 := Bb.cell 0 _ rfl
  have Bb1 := Bb.cell 1 _ rfl
  have Bb2 := Bb.cell 2 _ rfl
  have Bb3 := Bb.cell 3 _ rfl
  have Bcl := Bc.lt
  have Bcf := Bc.free
  have Bcl1 : w.heap.size + 1 + 1 < w3.heap.size + 1 := by omega
  have Bcl2 : w.heap.size + 1 + 1 < w3.heap.size + 1 + 1 := by omega
  have Bcl3 : w.heap.size + 1 + 1 < w3.heap.size + 1 + 1 + 1 := by omega
  have Bc0 := Bc.cell 0 _ rfl
  have Bc1 := Bc.cell 1 _ rfl
  have Bc2 := Bc.cell 2 _ rfl
  have Bc3 := Bc.cell 3 _ rfl
  have Bxl := Bx.lt
  have Bxf := Bx.free
  have Bxl1 : w.heap.size + 1 + 1 + 1 < w3.heap.size + 1 := by omega
  have Bxl2 : w.heap.size + 1 + 1 + 1 < w3.heap.size + 1 + 1 := by omega
  have Bxl3 : w.heap.size + 1 + 1 + 1 < w3.heap.size + 1 + 1 + 1 := by omega
  have Bx0 := Bx.cell 0 _ rfl
  have Bx1 := Bx.cell 1 _ rfl
  have Byl := By.lt
  have Byf := By.free
  have Byl1 : w.heap.size + 1 + 1 + 1 + 1 < w3.heap.size + 1 := by omega
  have Byl2 : w.heap.size + 1 + 1 + 1 + 1 < w3.heap.size + 1 + 1 := by omega
  have Byl3 : w.heap.size + 1 + 1 + 1 + 1 < w3.heap.size + 1 + 1 + 1 := by omega
  have By0 := By.cell 0 _ rfl
  have By1 := By.cell 1 _ rfl
  go_wp2
  go_ret
  exact ⟨rfl, (by refine Kept.below ?_; repeat (first | with_reducible exact hk | with_reducible exact Kept.refl _ | with_reducible refine Kept.alloc ?_ _ | with_reducible refine Kept.drew ?_ | with_reducible refine Kept.setCell ?_ (by simp only [World.size_alloc, World.size_setCell, World.size_drew]; omega) _))⟩

set_option maxRecDepth 100000 in
set_option maxHeartbeats 8000000 in
theorem WideOrder_gt {A B C X Y : Nat} (hA : W256 A) (hB : W256 B) (hC : W256 C) (hX : W128 X) (hY : W128 Y) (h : B < A) (w : World) :
    Calls Try.prog 15 #[wideV A, wideV B, wideV C, bitsV X, bitsV Y] w fun e w' => e = .returned (.bool true) ∧ Below w.heap.size w w' := by
  have hk := Kept.refl w
  have f1 := cmp_gt h
  have f2 := cmp_lt h
  have f5 := lt_false (Nat.le_of_lt h)
  have f6 := eqN_no hA hB (Nat.ne_of_gt h)
  clear h
  go_enter Try.func15, Try.ntmps15
  go_wp2
  refine wp_region_num 9 (fun W' => Kept w.heap.size w W' ∧ Box W' (w.heap.size) #[.int .u64 (limb 0 A), .int .u64 (limb 1 A), .int .u64 (limb 2 A), .int .u64 (limb 3 A)] ∧ Box W' (w.heap.size + 1) #[.int .u64 (limb 0 B), .int .u64 (limb 1 B), .int .u64 (limb 2 B), .int .u64 (limb 3 B)] ∧ Box W' (w.heap.size + 1 + 1) #[.int .u64 (limb 0 C), .int .u64 (limb 1 C), .int .u64 (limb 2 C), .int .u64 (limb 3 C)] ∧ Box W' (w.heap.size + 1 + 1 + 1) #[.int .u64 (limb 1 X), .int .u64 (limb 0 X)] ∧ Box W' (w.heap.size + 1 + 1 + 1 + 1) #[.int .u64 (limb 1 Y), .int .u64 (limb 0 Y)]) [.known (wideV A), .known (wideV B), .known (.int .i64 (cmpN A B)), .known (wideV B), .known (wideV A), .known (.int .i64 (cmpN B A)), .known (wideV B), .known (wideV C), .known (.int .i64 (cmpN B C))] (by kernel_rfl) (by kernel_rfl) (fun W W' h hb => ⟨(h.1).step hb, Box.call hb (h.2.1), Box.call hb (h.2.2.1), Box.call hb (h.2.2.2.1), Box.call hb (h.2.2.2.2.1), Box.call hb (h.2.2.2.2.2)⟩) (⟨(by repeat (first | with_reducible exact hk | with_reducible exact Kept.refl _ | with_reducible refine Kept.alloc ?_ _ | with_reducible refine Kept.drew ?_ | with_reducible refine Kept.setCell ?_ (by simp only [World.size_alloc, World.size_setCell, World.size_drew]; omega) _)), (by repeat (first | with_reducible assumption | with_reducible apply Box.set10 | with_reducible apply Box.set20 | with_reducible apply Box.set21 | with_reducible apply Box.set40 | with_reducible apply Box.set41 | with_reducible apply Box.set42 | with_reducible apply Box.set43 | with_reducible apply Box.set50 | with_reducible apply Box.set51 | with_reducible apply Box.set52 | with_reducible apply Box.set53 | with_reducible apply Box.set54 | with_reducible apply Box.drew | (with_reducible apply Box.newAt; (try simp only [World.size_alloc, World.size_setCell, World.size_drew]); done) | with_reducible apply Box.alloc | (with_reducible apply Box.other; case hne => ((try simp only [World.size_alloc, World.size_setCell, World.size_drew]); omega)))), (by repeat (first | with_reducible assumption | with_reducible apply Box.set10 | with_reducible apply Box.set20 | with_reducible apply Box.set21 | with_reducible apply Box.set40 | with_reducible apply Box.set41 | with_reducible apply Box.set42 | with_reducible apply Box.set43 | with_reducible apply Box.set50 | with_reducible apply Box.set51 | with_reducible apply Box.set52 | with_reducible apply Box.set53 | with_reducible apply Box.set54 | with_reducible apply Box.drew | (with_reducible apply Box.newAt; (try simp only [World.size_alloc, World.size_setCell, World.size_drew]); done) | with_reducible apply Box.alloc | (with_reducible apply Box.other; case hne => ((try simp only [World.size_alloc, World.size_setCell, World.size_drew]); omega)))), (by repeat (first | with_reducible assumption | with_reducible apply Box.set10 | with_reducible apply Box.set20 | with_reducible apply Box.set21 | with_reducible apply Box.set40 | with_reducible apply Box.set41 | with_reducible apply Box.set42 | with_reducible apply Box.set43 | with_reducible apply Box.set50 | with_reducible apply Box.set51 | with_reducible apply Box.set52 | with_reducible apply Box.set53 | with_reducible apply Box.set54 | with_reducible apply Box.drew | (with_reducible apply Box.newAt; (try simp only [World.size_alloc, World.size_setCell, World.size_drew]); done) | with_reducible apply Box.alloc | (with_reducible apply Box.other; case hne => ((try simp only [World.size_alloc, World.size_setCell, World.size_drew]); omega)))), (by repeat (first | with_reducible assumption | with_reducible apply Box.set10 | with_reducible apply Box.set20 | with_reducible apply Box.set21 | with_reducible apply Box.set40 | with_reducible apply Box.set41 | with_reducible apply Box.set42 | with_reducible apply Box.set43 | with_reducible apply Box.set50 | with_reducible apply Box.set51 | with_reducible apply Box.set52 | with_reducible apply Box.set53 | with_reducible apply Box.set54 | with_reducible apply Box.drew | (with_reducible apply Box.newAt; (try simp only [World.size_alloc, World.size_setCell, World.size_drew]); done) | with_reducible apply Box.alloc | (with_reducible apply Box.other; case hne => ((try simp only [World.size_alloc, World.size_setCell, World.size_drew]); omega)))), (by repeat (first | with_reducible assumption | with_reducible apply Box.set10 | with_reducible apply Box.set20 | with_reducible apply Box.set21 | with_reducible apply Box.set40 | with_reducible apply Box.set41 | with_reducible apply Box.set42 | with_reducible apply Box.set43 | with_reducible apply Box.set50 | with_reducible apply Box.set51 | with_reducible apply Box.set52 | with_reducible apply Box.set53 | with_reducible apply Box.set54 | with_reducible apply Box.drew | (with_reducible apply Box.newAt; (try simp only [World.size_alloc, World.size_setCell, World.size_drew]); done) | with_reducible apply Box.alloc | (with_reducible apply Box.other; case hne => ((try simp only [World.size_alloc, World.size_setCell, World.size_drew]); omega))))⟩) ?_
  clear hk
  intro ρ
  simp only [List.take_succ_cons, List.take_zero, List.drop_succ_cons, List.drop_zero]
  refine ⟨?_, ?_⟩
  · intro w hS hD
    have Q := (hS.2.1).cell
    have q0 := Q 0 _ rfl
    have q1 := Q 1 _ rfl
    have q2 := Q 2 _ rfl
    have q3 := Q 3 _ rfl
    clear Q hS hD
    refine n_val (by rfl) (by rfl) ?_
    go_simp; first | done | with_reducible rfl
  simp only [Act.put, planV, List.setIfInBounds_toArray, List.set_cons_zero, List.set_cons_succ, List.getElem?_cons_zero, List.getElem?_cons_succ]
  refine ⟨?_, ?_⟩
  · intro w hS hD
    have Q := (hS.2.2.1).cell
    have q0 := Q 0 _ rfl
    have q1 := Q 1 _ rfl
    have q2 := Q 2 _ rfl
    have q3 := Q 3 _ rfl
    clear Q hS hD
    refine n_val (by rfl) (by rfl) ?_
    go_simp; first | done | with_reducible rfl
  simp only [Act.put, planV, List.setIfInBounds_toArray, List.set_cons_zero, List.set_cons_succ, List.getElem?_cons_zero, List.getElem?_cons_succ]
  refine ⟨?_, ?_⟩
  · intro w hS hD
    clear hS hD
    refine n_call ?_ ?_ (by rfl) (by rfl) ?_ ?_
    rotate_left 2
    · go_simp; first | done | with_reducible rfl | (constructor <;> with_reducible rfl)
    · refine CmpW_at (IsWide.of hA) (IsWide.of hB) _
  simp only [Act.put, planV, List.setIfInBounds_toArray, List.set_cons_zero, List.set_cons_succ, List.getElem?_cons_zero, List.getElem?_cons_succ]
  refine ⟨?_, ?_⟩
  · intro w hS hD
    have Q := (hS.2.2.1).cell
    have q0 := Q 0 _ rfl
    have q1 := Q 1 _ rfl
    have q2 := Q 2 _ rfl
    have q3 := Q 3 _ rfl
    clear Q hS hD
    refine n_val (by rfl) (by rfl) ?_
    go_simp; first | done | with_reducible rfl
  simp only [Act.put, planV, List.setIfInBounds_toArray, List.set_cons_zero, List.set_cons_succ, List.getElem?_cons_zero, List.getElem?_cons_succ]
  refine ⟨?_, ?_⟩
  · intro w hS hD
    have Q := (hS.2.1).cell
    have q0 := Q 0 _ rfl
    have q1 := Q 1 _ rfl
    have q2 := Q 2 _ rfl
    have q3 := Q 3 _ rfl
    clear Q hS hD
    refine n_val (by rfl) (by rfl) ?_
    go_simp; first | done | with_reducible rfl
  simp only [Act.put, planV, List.setIfInBounds_toArray, List.set_cons_zero, List.set_cons_succ, List.getElem?_cons_zero, List.getElem?_cons_succ]
  refine ⟨?_, ?_⟩
  · intro w hS hD
    clear hS hD
    refine n_call ?_ ?_ (by rfl) (by rfl) ?_ ?_
    rotate_left 2
    · go_simp; first | done | with_reducible rfl | (constructor <;> with_reducible rfl)
    · refine CmpW_at (IsWide.of hB) (IsWide.of hA) _
  simp only [Act.put, planV, List.setIfInBounds_toArray, List.set_cons_zero, List.set_cons_succ, List.getElem?_cons_zero, List.getElem?_cons_succ]
  refine ⟨?_, ?_⟩
  · intro w hS hD
    have Q := (hS.2.2.1).cell
    have q0 := Q 0 _ rfl
    have q1 := Q 1 _ rfl
    have q2 := Q 2 _ rfl
    have q3 := Q 3 _ rfl
    clear Q hS hD
    refine n_val (by rfl) (by rfl) ?_
    go_simp; first | done | with_reducible rfl
  simp only [Act.put, planV, List.setIfInBounds_toArray, List.set_cons_zero, List.set_cons_succ, List.getElem?_cons_zero, List.getElem?_cons_succ]
  refine ⟨?_, ?_⟩
  · intro w hS hD
    have Q := (hS.2.2.2.1).cell
    have q0 := Q 0 _ rfl
    have q1 := Q 1 _ rfl
    have q2 := Q 2 _ rfl
    have q3 := Q 3 _ rfl
    clear Q hS hD
    refine n_val (by rfl) (by rfl) ?_
    go_simp; first | done | with_reducible rfl
  simp only [Act.put, planV, List.setIfInBounds_toArray, List.set_cons_zero, List.set_cons_succ, List.getElem?_cons_zero, List.getElem?_cons_succ]
  refine ⟨?_, ?_⟩
  · intro w hS hD
    clear hS hD
    refine n_call ?_ ?_ (by rfl) (by rfl) ?_ ?_
    rotate_left 2
    · go_simp; first | done | with_reducible rfl | (constructor <;> with_reducible rfl)
    · refine CmpW_at (IsWide.of hB) (IsWide.of hC) _
  simp only [Act.put, planV, List.setIfInBounds_toArray, List.set_cons_zero, List.set_cons_succ, List.getElem?_cons_zero, List.getElem?_cons_succ]
  intro w1 hS hF
  change wpList _ _ _ _ _ _
  obtain ⟨hk, Ba, Bb, Bc, Bx, By⟩ := hS
  clear hF
  clear ρ
  have hz_w1 := hk.size
  have Bal := Ba.lt
  have Baf := Ba.free
  have Bal1 : w.heap.size < w1.heap.size + 1 := by omega
  have Bal2 : w.heap.size < w1.heap.size + 1 + 1 := by omega
  have Bal3 : w.heap.size < w1.heap.size + 1 + 1 + 1 := by omega
  have Ba0 := Ba.cell 0 _ rfl
  have Ba1 := Ba.cell 1 _ rfl
  have Ba2 := Ba.cell 2 _ rfl
  have Ba3 := Ba.cell 3 _ rfl
  have Bbl := Bb.lt
  have Bbf := Bb.free
  have Bbl1 : w.heap.size + 1 < w1.heap.size + 1 := by omega
  have Bbl2 : w.heap.size + 1 < w1.heap.size + 1 + 1 := by omega
  have Bbl3 : w.heap.size + 1 < w1.heap.size + 1 + 1 + 1 := by omega
  have Bb0 := Bb.cell 0 _ rfl
  have Bb1 := Bb.cell 1 _ rfl
  have Bb2 := Bb.cell 2 _ rfl
  have Bb3 := Bb.cell 3 _ rfl
  have Bcl := Bc.lt
  have Bcf := Bc.free
  have Bcl1 : w.heap.size + 1 + 1 < w1.heap.size + 1 := by omega
  have Bcl2 : w.heap.size + 1 + 1 < w1.heap.size + 1 + 1 := by omega
  have Bcl3 : w.heap.size + 1 + 1 < w1.heap.size + 1 + 1 + 1 := by omega
  have Bc0 := Bc.cell 0 _ rfl
  have Bc1 := Bc.cell 1 _ rfl
  have Bc2 := Bc.cell 2 _ rfl
  have Bc3 := Bc.cell 3 _ rfl
  have Bxl := Bx.lt
  have Bxf := Bx.free
  have Bxl1 : w.heap.size + 1 + 1 + 1 < w1.heap.size + 1 := by omega
  have Bxl2 : w.heap.size + 1 + 1 + 1 < w1.heap.size + 1 + 1 := by omega
  have Bxl3 : w.heap.size + 1 + 1 + 1 < w1.heap.size + 1 + 1 + 1 := by omega
  have Bx0 := Bx.cell 0 _ rfl
  have Bx1 := Bx.cell 1 _ rfl
  have Byl := By.lt
  have Byf := By.free
  have Byl1 : w.heap.size + 1 + 1 + 1 + 1 < w1.heap.size + 1 := by omega
  have Byl2 : w.heap.size + 1 + 1 + 1 + 1 < w1.heap.size + 1 + 1 := by omega
  have Byl3 : w.heap.size + 1 + 1 + 1 + 1 < w1.heap.size + 1 + 1 + 1 := by omega
  have By0 := By.cell 0 _ rfl
  have By1 := By.cell 1 _ rfl
  go_wp2_with fail
  (with_reducible refine (SubW_at (IsWide.of hA) (IsWide.of hB) _).mono ?_)
  rintro e w2 ⟨rfl, hb⟩
  have Ba' : Box w2 (w.heap.size) #[.int .u64 (limb 0 A), .int .u64 (limb 1 A), .int .u64 (limb 2 A), .int .u64 (limb 3 A)] := Box.call hb (by repeat (first | with_reducible assumption | with_reducible apply Box.set10 | with_reducible apply Box.set20 | with_reducible apply Box.set21 | with_reducible apply Box.set40 | with_reducible apply Box.set41 | with_reducible apply Box.set42 | with_reducible apply Box.set43 | with_reducible apply Box.set50 | with_reducible apply Box.set51 | with_reducible apply Box.set52 | with_reducible apply Box.set53 | with_reducible apply Box.set54 | with_reducible apply Box.drew | (with_reducible apply Box.newAt; (try simp only [World.size_alloc, World.size_setCell, World.size_drew]); done) | with_reducible apply Box.alloc | (with_reducible apply Box.other; case hne => ((try simp only [World.size_alloc, World.size_setCell, World.size_drew]); omega))))
  have Bb' : Box w2 (w.heap.size + 1) #[.int .u64 (limb 0 B), .int .u64 (limb 1 B), .int .u64 (limb 2 B), .int .u64 (limb 3 B)] := Box.call hb (by repeat (first | with_reducible assumption | with_reducible apply Box.set10 | with_reducible apply Box.set20 | with_reducible apply Box.set21 | with_reducible apply Box.set40 | with_reducible apply Box.set41 | with_reducible apply Box.set42 | with_reducible apply Box.set43 | with_reducible apply Box.set50 | with_reducible apply Box.set51 | with_reducible apply Box.set52 | with_reducible apply Box.set53 | with_reducible apply Box.set54 | with_reducible apply Box.drew | (with_reducible apply Box.newAt; (try simp only [World.size_alloc, World.size_setCell, World.size_drew]); done) | with_reducible apply Box.alloc | (with_reducible apply Box.other; case hne => ((try simp only [World.size_alloc, World.size_setCell, World.size_drew]); omega))))
  have Bc' : Box w2 (w.heap.size + 1 + 1) #[.int .u64 (limb 0 C), .int .u64 (limb 1 C), .int .u64 (limb 2 C), .int .u64 (limb 3 C)] := Box.call hb (by repeat (first | with_reducible assumption | with_reducible apply Box.set10 | with_reducible apply Box.set20 | with_reducible apply Box.set21 | with_reducible apply Box.set40 | with_reducible apply Box.set41 | with_reducible apply Box.set42 | with_reducible apply Box.set43 | with_reducible apply Box.set50 | with_reducible apply Box.set51 | with_reducible apply Box.set52 | with_reducible apply Box.set53 | with_reducible apply Box.set54 | with_reducible apply Box.drew | (with_reducible apply Box.newAt; (try simp only [World.size_alloc, World.size_setCell, World.size_drew]); done) | with_reducible apply Box.alloc | (with_reducible apply Box.other; case hne => ((try simp only [World.size_alloc, World.size_setCell, World.size_drew]); omega))))
  have Bx' : Box w2 (w.heap.size + 1 + 1 + 1) #[.int .u64 (limb 1 X), .int .u64 (limb 0 X)] := Box.call hb (by repeat (first | with_reducible assumption | with_reducible apply Box.set10 | with_reducible apply Box.set20 | with_reducible apply Box.set21 | with_reducible apply Box.set40 | with_reducible apply Box.set41 | with_reducible apply Box.set42 | with_reducible apply Box.set43 | with_reducible apply Box.set50 | with_reducible apply Box.set51 | with_reducible apply Box.set52 | with_reducible apply Box.set53 | with_reducible apply Box.set54 | with_reducible apply Box.drew | (with_reducible apply Box.newAt; (try simp only [World.size_alloc, World.size_setCell, World.size_drew]); done) | with_reducible apply Box.alloc | (with_reducible apply Box.other; case hne => ((try simp only [World.size_alloc, World.size_setCell, World.size_drew]); omega))))
  have By' : Box w2 (w.heap.size + 1 + 1 + 1 + 1) #[.int .u64 (limb 1 Y), .int .u64 (limb 0 Y)] := Box.call hb (by repeat (first | with_reducible assumption | with_reducible apply Box.set10 | with_reducible apply Box.set20 | with_reducible apply Box.set21 | with_reducible apply Box.set40 | with_reducible apply Box.set41 | with_reducible apply Box.set42 | with_reducible apply Box.set43 | with_reducible apply Box.set50 | with_reducible apply Box.set51 | with_reducible apply Box.set52 | with_reducible apply Box.set53 | with_reducible apply Box.set54 | with_reducible apply Box.drew | (with_reducible apply Box.newAt; (try simp only [World.size_alloc, World.size_setCell, World.size_drew]); done) | with_reducible apply Box.alloc | (with_reducible apply Box.other; case hne => ((try simp only [World.size_alloc, World.size_setCell, World.size_drew]); omega))))
  have hk' : Kept w.heap.size w w2 := Kept.step (by repeat (first | with_reducible exact hk | with_reducible exact Kept.refl _ | with_reducible refine Kept.alloc ?_ _ | with_reducible refine Kept.drew ?_ | with_reducible refine Kept.setCell ?_ (by simp only [World.size_alloc, World.size_setCell, World.size_drew]; omega) _)) hb
  clear hk hb
  clear Ba Bal1 Bal2 Bal3 Baf Ba0 Ba1 Ba2 Ba3
  clear Bb Bbl1 Bbl2 Bbl3 Bbf Bb0 Bb1 Bb2 Bb3
  clear Bc Bcl1 Bcl2 Bcl3 Bcf Bc0 Bc1 Bc2 Bc3
  clear Bx Bxl1 Bxl2 Bxl3 Bxf Bx0 Bx1
  clear By Byl1 Byl2 Byl3 Byf By0 By1
  have Ba := Ba'
  clear Ba'
  have Bb := Bb'
  clear Bb'
  have Bc := Bc'
  clear Bc'
  have Bx := Bx'
  clear Bx'
  have By := By'
  clear By'
  have hk := hk'
  clear hk'
  have hz_w2 := hk.size
  have Bal := Ba.lt
  have Baf := Ba.free
  have Bal1 : w.heap.size < w2.heap.size + 1 := by omega
  have Bal2 : w.heap.size < w2.heap.size + 1 + 1 := by omega
  have Bal3 : w.heap.size < w2.heap.size + 1 + 1 + 1 := by omega
  have Ba0 := Ba.cell 0 _ rfl
  have Ba1 := Ba.cell 1 _ rfl
  have Ba2 := Ba.cell 2 _ rfl
  have Ba3 := Ba.cell 3 _ rfl
  have Bbl := Bb.lt
  have Bbf := Bb.free
  have Bbl1 : w.heap.size + 1 < w2.heap.size + 1 := by omega
  have Bbl2 : w.heap.size + 1 < w2.heap.size + 1 + 1 := by omega
  have Bbl3 : w.heap.size + 1 < w2.heap.size + 1 + 1 + 1 := by omega
  have Bb0 := Bb.cell 0 _ rfl
  have Bb1 := Bb.cell 1 _ rfl
  have Bb2 := Bb.cell 2 _ rfl
  have Bb3 := Bb.cell 3 _ rfl
  have Bcl := Bc.lt
  have Bcf := Bc.free
  have Bcl1 : w.heap.size + 1 + 1 < w2.heap.size + 1 := by omega
  have Bcl2 : w.heap.size + 1 + 1 < w2.heap.size + 1 + 1 := by omega
  have Bcl3 : w.heap.size + 1 + 1 < w2.heap.size + 1 + 1 + 1 := by omega
  have Bc0 := Bc.cell 0 _ rfl
  have Bc1 := Bc.cell 1 _ rfl
  have Bc2 := Bc.cell 2 _ rfl
  have Bc3 := Bc.cell 3 _ rfl
  have Bxl := Bx.lt
  have Bxf := Bx.free
  have Bxl1 : w.heap.size + 1 + 1 + 1 < w2.heap.size + 1 := by omega
  have Bxl2 : w.heap.size + 1 + 1 + 1 < w2.heap.size + 1 + 1 := by omega
  have Bxl3 : w.heap.size + 1 + 1 + 1 < w2.heap.size + 1 + 1 + 1 := by omega
  have Bx0 := Bx.cell 0 _ rfl
  have Bx1 := Bx.cell 1 _ rfl
  have Byl := By.lt
  have Byf := By.free
  have Byl1 : w.heap.size + 1 + 1 + 1 + 1 < w2.heap.size + 1 := by omega
  have Byl2 : w.heap.size + 1 + 1 + 1 + 1 < w2.heap.size + 1 + 1 := by omega
  have Byl3 : w.heap.size + 1 + 1 + 1 + 1 < w2.heap.size + 1 + 1 + 1 := by omega
  have By0 := By.cell 0 _ rfl
  have By1 := By.cell 1 _ rfl
  go_wp2
  refine wp_region_num 12 (fun W' => Kept w.heap.size w W' ∧ Box W' (w.heap.size) #[.int .u64 (limb 0 A), .int .u64 (limb 1 A), .int .u64 (limb 2 A), .int .u64 (limb 3 A)] ∧ Box W' (w.heap.size + 1) #[.int .u64 (limb 0 B), .int .u64 (limb 1 B), .int .u64 (limb 2 B), .int .u64 (limb 3 B)] ∧ Box W' (w.heap.size + 1 + 1) #[.int .u64 (limb 0 C), .int .u64 (limb 1 C), .int .u64 (limb 2 C), .int .u64 (limb 3 C)] ∧ Box W' (w.heap.size + 1 + 1 + 1) #[.int .u64 (limb 1 X), .int .u64 (limb 0 X)] ∧ Box W' (w.heap.size + 1 + 1 + 1 + 1) #[.int .u64 (limb 1 Y), .int .u64 (limb 0 Y)]) [.known (bitsV X), .known (wideV X), .known (bitsV Y), .known (wideV Y), .known (.int .i64 (cmpN X Y)), .known (bitsV X), .known (bitsV Y), .known (.int .i64 (cmpN X Y)), .known (.bool true), .known (.bool true), .known (.bool true), .known (.bool true)] (by kernel_rfl) (by kernel_rfl) (fun W W' h hb => ⟨(h.1).step hb, Box.call hb (h.2.1), Box.call hb (h.2.2.1), Box.call hb (h.2.2.2.1), Box.call hb (h.2.2.2.2.1), Box.call hb (h.2.2.2.2.2)⟩) (⟨(by repeat (first | with_reducible exact hk | with_reducible exact Kept.refl _ | with_reducible refine Kept.alloc ?_ _ | with_reducible refine Kept.drew ?_ | with_reducible refine Kept.setCell ?_ (by simp only [World.size_alloc, World.size_setCell, World.size_drew]; omega) _)), (by repeat (first | with_reducible assumption | with_reducible apply Box.set10 | with_reducible apply Box.set20 | with_reducible apply Box.set21 | with_reducible apply Box.set40 | with_reducible apply Box.set41 | with_reducible apply Box.set42 | with_reducible apply Box.set43 | with_reducible apply Box.set50 | with_reducible apply Box.set51 | with_reducible apply Box.set52 | with_reducible apply Box.set53 | with_reducible apply Box.set54 | with_reducible apply Box.drew | (with_reducible apply Box.newAt; (try simp only [World.size_alloc, World.size_setCell, World.size_drew]); done) | with_reducible apply Box.alloc | (with_reducible apply Box.other; case hne => ((try simp only [World.size_alloc, World.size_setCell, World.size_drew]); omega)))), (by repeat (first | with_reducible assumption | with_reducible apply Box.set10 | with_reducible apply Box.set20 | with_reducible apply Box.set21 | with_reducible apply Box.set40 | with_reducible apply Box.set41 | with_reducible apply Box.set42 | with_reducible apply Box.set43 | with_reducible apply Box.set50 | with_reducible apply Box.set51 | with_reducible apply Box.set52 | with_reducible apply Box.set53 | with_reducible apply Box.set54 | with_reducible apply Box.drew | (with_reducible apply Box.newAt; (try simp only [World.size_alloc, World.size_setCell, World.size_drew]); done) | with_reducible apply Box.alloc | (with_reducible apply Box.other; case hne => ((try simp only [World.size_alloc, World.size_setCell, World.size_drew]); omega)))), (by repeat (first | with_reducible assumption | with_reducible apply Box.set10 | with_reducible apply Box.set20 | with_reducible apply Box.set21 | with_reducible apply Box.set40 | with_reducible apply Box.set41 | with_reducible apply Box.set42 | with_reducible apply Box.set43 | with_reducible apply Box.set50 | with_reducible apply Box.set51 | with_reducible apply Box.set52 | with_reducible apply Box.set53 | with_reducible apply Box.set54 | with_reducible apply Box.drew | (with_reducible apply Box.newAt; (try simp only [World.size_alloc, World.size_setCell, World.size_drew]); done) | with_reducible apply Box.alloc | (with_reducible apply Box.other; case hne => ((try simp only [World.size_alloc, World.size_setCell, World.size_drew]); omega)))), (by repeat (first | with_reducible assumption | with_reducible apply Box.set10 | with_reducible apply Box.set20 | with_reducible apply Box.set21 | with_reducible apply Box.set40 | with_reducible apply Box.set41 | with_reducible apply Box.set42 | with_reducible apply Box.set43 | with_reducible apply Box.set50 | with_reducible apply Box.set51 | with_reducible apply Box.set52 | with_reducible apply Box.set53 | with_reducible apply Box.set54 | with_reducible apply Box.drew | (with_reducible apply Box.newAt; (try simp only [World.size_alloc, World.size_setCell, World.size_drew]); done) | with_reducible apply Box.alloc | (with_reducible apply Box.other; case hne => ((try simp only [World.size_alloc, World.size_setCell, World.size_drew]); omega)))), (by repeat (first | with_reducible assumption | with_reducible apply Box.set10 | with_reducible apply Box.set20 | with_reducible apply Box.set21 | with_reducible apply Box.set40 | with_reducible apply Box.set41 | with_reducible apply Box.set42 | with_reducible apply Box.set43 | with_reducible apply Box.set50 | with_reducible apply Box.set51 | with_reducible apply Box.set52 | with_reducible apply Box.set53 | with_reducible apply Box.set54 | with_reducible apply Box.drew | (with_reducible apply Box.newAt; (try simp only [World.size_alloc, World.size_setCell, World.size_drew]); done) | with_reducible apply Box.alloc | (with_reducible apply Box.other; case hne => ((try simp only [World.size_alloc, World.size_setCell, World.size_drew]); omega))))⟩) ?_
  clear hk
  clear Ba Bal1 Bal2 Bal3 Baf Ba0 Ba1 Ba2 Ba3
  clear Bb Bbl1 Bbl2 Bbl3 Bbf Bb0 Bb1 Bb2 Bb3
  clear Bc Bcl1 Bcl2 Bcl3 Bcf Bc0 Bc1 Bc2 Bc3
  clear Bx Bxl1 Bxl2 Bxl3 Bxf Bx0 Bx1
  clear By Byl1 Byl2 Byl3 Byf By0 By1
  intro ρ
  simp only [List.take_succ_cons, List.take_zero, List.drop_succ_cons, List.drop_zero]
  refine ⟨?_, ?_⟩
  · intro w hS hD
    have Q := (hS.2.2.2.2.1).cell
    have q0 := Q 0 _ rfl
    have q1 := Q 1 _ rfl
    clear Q hS hD
    refine n_val (by rfl) (by rfl) ?_
    go_simp; first | done | with_reducible rfl
  simp only [Act.put, planV, List.setIfInBounds_toArray, List.set_cons_zero, List.set_cons_succ, List.getElem?_cons_zero, List.getElem?_cons_succ]
  refine ⟨?_, ?_⟩
  · intro w hS hD
    clear hS hD
    refine n_call ?_ ?_ (by rfl) (by rfl) ?_ ?_
    rotate_left 2
    · go_simp; first | done | with_reducible rfl | (constructor <;> with_reducible rfl)
    · refine Of_at (IsBits.of hX) _
  simp only [Act.put, planV, List.setIfInBounds_toArray, List.set_cons_zero, List.set_cons_succ, List.getElem?_cons_zero, List.getElem?_cons_succ]
  refine ⟨?_, ?_⟩
  · intro w hS hD
    have Q := (hS.2.2.2.2.2).cell
    have q0 := Q 0 _ rfl
    have q1 := Q 1 _ rfl
    clear Q hS hD
    refine n_val (by rfl) (by rfl) ?_
    go_simp; first | done | with_reducible rfl
  simp only [Act.put, planV, List.setIfInBounds_toArray, List.set_cons_zero, List.set_cons_succ, List.getElem?_cons_zero, List.getElem?_cons_succ]
  refine ⟨?_, ?_⟩
  · intro w hS hD
    clear hS hD
    refine n_call ?_ ?_ (by rfl) (by rfl) ?_ ?_
    rotate_left 2
    · go_simp; first | done | with_reducible rfl | (constructor <;> with_reducible rfl)
    · refine Of_at (IsBits.of hY) _
  simp only [Act.put, planV, List.setIfInBounds_toArray, List.set_cons_zero, List.set_cons_succ, List.getElem?_cons_zero, List.getElem?_cons_succ]
  refine ⟨?_, ?_⟩
  · intro w hS hD
    clear hS hD
    refine n_call ?_ ?_ (by rfl) (by rfl) ?_ ?_
    rotate_left 2
    · go_simp; first | done | with_reducible rfl | (constructor <;> with_reducible rfl)
    · refine CmpW_at (IsWide.of (w128_256 hX)) (IsWide.of (w128_256 hY)) _
  simp only [Act.put, planV, List.setIfInBounds_toArray, List.set_cons_zero, List.set_cons_succ, List.getElem?_cons_zero, List.getElem?_cons_succ]
  refine ⟨?_, ?_⟩
  · intro w hS hD
    have Q := (hS.2.2.2.2.1).cell
    have q0 := Q 0 _ rfl
    have q1 := Q 1 _ rfl
    clear Q hS hD
    refine n_val (by rfl) (by rfl) ?_
    go_simp; first | done | with_reducible rfl
  simp only [Act.put, planV, List.setIfInBounds_toArray, List.set_cons_zero, List.set_cons_succ, List.getElem?_cons_zero, List.getElem?_cons_succ]
  refine ⟨?_, ?_⟩
  · intro w hS hD
    have Q := (hS.2.2.2.2.2).cell
    have q0 := Q 0 _ rfl
    have q1 := Q 1 _ rfl
    clear Q hS hD
    refine n_val (by rfl) (by rfl) ?_
    go_simp; first | done | with_reducible rfl
  simp only [Act.put, planV, List.setIfInBounds_toArray, List.set_cons_zero, List.set_cons_succ, List.getElem?_cons_zero, List.getElem?_cons_succ]
  refine ⟨?_, ?_⟩
  · intro w hS hD
    clear hS hD
    refine n_call ?_ ?_ (by rfl) (by rfl) ?_ ?_
    rotate_left 2
    · go_simp; first | done | with_reducible rfl | (constructor <;> with_reducible rfl)
    · refine Cmp_at (IsBits.of hX) (IsBits.of hY) _
  simp only [Act.put, planV, List.setIfInBounds_toArray, List.set_cons_zero, List.set_cons_succ, List.getElem?_cons_zero, List.getElem?_cons_succ]
  refine ⟨?_, ?_⟩
  · intro w hS hD
    clear hS hD
    refine n_val (by rfl) (by rfl) ?_
    go_simp; first | done | with_reducible rfl | rfl
  simp only [Act.put, planV, List.setIfInBounds_toArray, List.set_cons_zero, List.set_cons_succ, List.getElem?_cons_zero, List.getElem?_cons_succ]
  refine ⟨?_, ?_⟩
  · intro w hS hD
    clear hS hD
    refine n_val (by rfl) (by rfl) ?_
    go_simp; first | done | with_reducible rfl | rfl
  simp only [Act.put, planV, List.setIfInBounds_toArray, List.set_cons_zero, List.set_cons_succ, List.getElem?_cons_zero, List.getElem?_cons_succ]
  refine ⟨?_, ?_⟩
  · intro w hS hD
    clear hS hD
    refine n_call ?_ ?_ (by rfl) (by rfl) ?_ ?_
    rotate_left 2
    · go_simp; first | done | with_reducible rfl | (constructor <;> with_reducible rfl)
    · refine counts02_any _
  simp only [Act.put, planV, List.setIfInBounds_toArray, List.set_cons_zero, List.set_cons_succ, List.getElem?_cons_zero, List.getElem?_cons_succ]
  refine ⟨?_, ?_⟩
  · intro w hS hD
    clear hS hD
    refine n_val (by rfl) (by rfl) ?_
    go_simp; first | done | with_reducible rfl | rfl
  simp only [Act.put, planV, List.setIfInBounds_toArray, List.set_cons_zero, List.set_cons_succ, List.getElem?_cons_zero, List.getElem?_cons_succ]
  intro w3 hS hF
  change wpList _ _ _ _ _ _
  obtain ⟨hk, Ba, Bb, Bc, Bx, By⟩ := hS
  clear hF
  clear ρ
  have hz_w3 := hk.size
  have Bal := Ba.lt
  have Baf := Ba.free
  have Bal1 : w.heap.size < w3.heap.size + 1 := by omega
  have Bal2 : w.heap.size < w3.heap.size + 1 + 1 := by omega
  have Bal3 : w.heap.size < w3.heap.size + 1 + 1 + 1 := by omega
  have Ba0 := Ba.cell 0 _ rfl
  have Ba1 := Ba.cell 1 _ rfl
  have Ba2 := Ba.cell 2 _ rfl
  have Ba3 := Ba.cell 3 _ rfl
  have Bbl := Bb.lt
  have Bbf := Bb.free
  have Bbl1 : w.heap.size + 1 < w3.heap.size + 1 := by omega
  have Bbl2 : w.heap.size + 1 < w3.heap.size + 1 + 1 := by omega
  have Bbl3 : w.heap.size + 1 < w3.heap.size + 1 + 1 + 1 := by omega
  have Bb0 := Bb.cell 0 _ rfl
  have Bb1 := Bb.cell 1 _ rfl
  have Bb2 := Bb.cell 2 _ rfl
  have Bb3 := Bb.cell 3 _ rfl
  have Bcl := Bc.lt
  have Bcf := Bc.free
  have Bcl1 : w.heap.size + 1 + 1 < w3.heap.size + 1 := by omega
  have Bcl2 : w.heap.size + 1 + 1 < w3.heap.size + 1 + 1 := by omega
  have Bcl3 : w.heap.size + 1 + 1 < w3.heap.size + 1 + 1 + 1 := by omega
  have Bc0 := Bc.cell 0 _ rfl
  have Bc1 := Bc.cell 1 _ rfl
  have Bc2 := Bc.cell 2 _ rfl
  have Bc3 := Bc.cell 3 _ rfl
  have Bxl := Bx.lt
  have Bxf := Bx.free
  have Bxl1 : w.heap.size + 1 + 1 + 1 < w3.heap.size + 1 := by omega
  have Bxl2 : w.heap.size + 1 + 1 + 1 < w3.heap.size + 1 + 1 := by omega
  have Bxl3 : w.heap.size + 1 + 1 + 1 < w3.heap.size + 1 + 1 + 1 := by omega
  have Bx0 := Bx.cell 0 _ rfl
  have Bx1 := Bx.cell 1 _ rfl
  have Byl := By.lt
  have Byf := By.free
  have Byl1 : w.heap.size + 1 + 1 + 1 + 1 < w3.heap.size + 1 := by omega
  have Byl2 : w.heap.size + 1 + 1 + 1 + 1 < w3.heap.size + 1 + 1 := by omega
  have Byl3 : w.heap.size + 1 + 1 + 1 + 1 < w3.heap.size + 1 + 1 + 1 := by omega
  have By0 := By.cell 0 _ rfl
  have By1 := By.cell 1 _ rfl
  go_wp2
  go_ret
  exact ⟨rfl, (by refine Kept.below ?_; repeat (first | with_reducible exact hk | with_reducible exact Kept.refl _ | with_reducible refine Kept.alloc ?_ _ | with_reducible refine Kept.drew ?_ | with_reducible refine Kept.setCell ?_ (by simp only [World.size_alloc, World.size_setCell, World.size_drew]; omega) _))⟩

theorem WideOrder_walk {A B C X Y : Nat} (hA : W256 A) (hB : W256 B) (hC : W256 C) (hX : W128 X) (hY : W128 Y) (w : World) :
    Calls Try.prog 15 #[wideV A, wideV B, wideV C, bitsV X, bitsV Y] w fun e w' => e = .returned (.bool true) ∧ Below w.heap.size w w' := by
  rcases Nat.lt_trichotomy A B with h | h | h
  · by_cases hz : B ≤ C
    · exact WideOrder_lt1 hA hB hC hX hY h hz w
    · exact WideOrder_lt2 hA hB hC hX hY h (Nat.lt_of_not_le hz) w
  · subst h
    by_cases hz : A ≤ C
    · exact WideOrder_eq1 hA hC hX hY hz w
    · exact WideOrder_eq2 hA hC hX hY (Nat.lt_of_not_le hz) w
  · exact WideOrder_gt hA hB hC hX hY h w

end Go.Proofs.Ytohlhmicolnmbaa
