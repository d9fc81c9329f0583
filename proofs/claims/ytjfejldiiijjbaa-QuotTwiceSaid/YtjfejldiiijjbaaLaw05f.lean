/- The walk of QuotTwice. -/
import Derived.Test.YtjfejldiiijjbaaLaw05
set_option linter.unusedVariables false
set_option linter.unusedSimpArgs false
namespace Go.Proofs.Ytjfejldiiijjbaa
open Go.RowKit

theorem odd_far (r : Nat) {D : Nat} (hD : 0 < D) (a : Nat) {b : Nat} (hb : 0 < b) : oddF (farN r D a) D b = oddF r D (a + b) := by
  obtain ⟨c, rfl⟩ : ∃ c, b = c + 1 := ⟨b - 1, by omega⟩
  rw [odd_step _ hD, far_far, ← Nat.add_assoc, odd_step _ hD]
theorem qt_left {R D : Nat} {x : Int} (hR : W128 R) (h0 : 0 ≤ x) (h1 : x ≤ 128) : modN (left256 R x) D = farN R D x.toNat ∧ bits .and .u64 (limb 0 (divN (left256 R x) D)) 1 = if oddF R D x.toNat = true then 1 else 0 := by
  rw [left_exact hR h0 h1, modN_def, divN_def]
  refine ⟨rfl, ?_⟩
  rw [and_one (limb_u64 _ _)]
  unfold oddF
  generalize R * 2 ^ x.toNat / D = Q
  unfold limb
  by_cases h : Q % 2 = 1
  · simp [h]; omega
  · simp [h]; omega
theorem qt_w {R D : Nat} {x : Int} (hR : W128 R) : W256 (left256 R x) := left_w R x
set_option maxRecDepth 100000 in
set_option maxHeartbeats 8000000 in
theorem QuotTwice_0far {R D : Nat} {n m : Int} (hR : W128 R) (hD : W128 D) (n0 : 0 ≤ n) (n1 : n ≤ 65535) (m0 : 0 ≤ m) (m1 : m ≤ 65535) (h : R < D) (y0 : m % 3000 = 0) (x0 : 128 < n % 3000) (w : World) :
    Calls Try.prog 13 #[bitsV R, .int .u16 n, .int .u16 m, bitsV D] w fun e w' => e = .returned (.bool true) ∧ Below w.heap.size w w' := by
  have hk := Kept.refl w
  have c1 := cmp_lt h
  have HP : 0 < D := by omega
  have EF := Lib.hid (far_far R D ((n % 3000).toNat) ((m % 3000).toNat))
  have ww : IntKind.i64.wrap (n % 3000 + m % 3000) = n % 3000 + m % 3000 := IntWalk.i64_in _ (by omega)
  have yn : ¬ 0 < m % 3000 := by omega
  clear y0
  go_enter Try.func13, Try.ntmps13
  go_wp2_with fail
  (with_reducible refine (Mod_at (IsBits.of hR) (IsBits.of hD) h ((n % 3000).toNat) (z := n % 3000) (by omega) (by omega) _).mono ?_)
  rintro e w1 ⟨rfl, hb⟩
  have X1' : Box w1 (w.heap.size) #[.int .u64 (limb 1 R), .int .u64 (limb 0 R)] := Box.call hb (by repeat (first | with_reducible assumption | with_reducible apply Box.set10 | with_reducible apply Box.set20 | with_reducible apply Box.set21 | with_reducible apply Box.set40 | with_reducible apply Box.set41 | with_reducible apply Box.set42 | with_reducible apply Box.set43 | with_reducible apply Box.set50 | with_reducible apply Box.set51 | with_reducible apply Box.set52 | with_reducible apply Box.set53 | with_reducible apply Box.set54 | with_reducible apply Box.drew | (with_reducible apply Box.newAt; (try simp only [World.size_alloc, World.size_setCell, World.size_drew]); done) | with_reducible apply Box.alloc | (with_reducible apply Box.other; case hne => ((try simp only [World.size_alloc, World.size_setCell, World.size_drew]); omega))))
  have X2' : Box w1 (w.heap.size + 1) #[.int .u64 (limb 1 D), .int .u64 (limb 0 D)] := Box.call hb (by repeat (first | with_reducible assumption | with_reducible apply Box.set10 | with_reducible apply Box.set20 | with_reducible apply Box.set21 | with_reducible apply Box.set40 | with_reducible apply Box.set41 | with_reducible apply Box.set42 | with_reducible apply Box.set43 | with_reducible apply Box.set50 | with_reducible apply Box.set51 | with_reducible apply Box.set52 | with_reducible apply Box.set53 | with_reducible apply Box.set54 | with_reducible apply Box.drew | (with_reducible apply Box.newAt; (try simp only [World.size_alloc, World.size_setCell, World.size_drew]); done) | with_reducible apply Box.alloc | (with_reducible apply Box.other; case hne => ((try simp only [World.size_alloc, World.size_setCell, World.size_drew]); omega))))
  have hk' : Kept w.heap.size w w1 := Kept.step (by repeat (first | with_reducible exact hk | with_reducible exact Kept.refl _ | with_reducible refine Kept.alloc ?_ _ | with_reducible refine Kept.drew ?_ | with_reducible refine Kept.setCell ?_ (by simp only [World.size_alloc, World.size_setCell, World.size_drew]; omega) _)) hb
  clear hk hb
  have X1 := X1'
  clear X1'
  have X2 := X2'
  clear X2'
  have hk := hk'
  clear hk'
  have hz_w1 := hk.size
  have X1l := X1.lt
  have X1f := X1.free
  have X1l1 : w.heap.size < w1.heap.size + 1 := by omega
  have X1l2 : w.heap.size < w1.heap.size + 1 + 1 := by omega
  have X1l3 : w.heap.size < w1.heap.size + 1 + 1 + 1 := by omega
  have X10 := X1.cell 0 _ rfl
  have X11 := X1.cell 1 _ rfl
  have X2l := X2.lt
  have X2f := X2.free
  have X2l1 : w.heap.size + 1 < w1.heap.size + 1 := by omega
  have X2l2 : w.heap.size + 1 < w1.heap.size + 1 + 1 := by omega
  have X2l3 : w.heap.size + 1 < w1.heap.size + 1 + 1 + 1 := by omega
  have X20 := X2.cell 0 _ rfl
  have X21 := X2.cell 1 _ rfl
  go_wp2_with fail
  (with_reducible refine (Cmp_at (IsBits.of hR) (IsBits.of hD) _).mono ?_)
  rintro e w2 ⟨rfl, hb⟩
  have X1' : Box w2 (w.heap.size) #[.int .u64 (limb 1 R), .int .u64 (limb 0 R)] := Box.call hb (by repeat (first | with_reducible assumption | with_reducible apply Box.set10 | with_reducible apply Box.set20 | with_reducible apply Box.set21 | with_reducible apply Box.set40 | with_reducible apply Box.set41 | with_reducible apply Box.set42 | with_reducible apply Box.set43 | with_reducible apply Box.set50 | with_reducible apply Box.set51 | with_reducible apply Box.set52 | with_reducible apply Box.set53 | with_reducible apply Box.set54 | with_reducible apply Box.drew | (with_reducible apply Box.newAt; (try simp only [World.size_alloc, World.size_setCell, World.size_drew]); done) | with_reducible apply Box.alloc | (with_reducible apply Box.other; case hne => ((try simp only [World.size_alloc, World.size_setCell, World.size_drew]); omega))))
  have X2' : Box w2 (w.heap.size + 1) #[.int .u64 (limb 1 D), .int .u64 (limb 0 D)] := Box.call hb (by repeat (first | with_reducible assumption | with_reducible apply Box.set10 | with_reducible apply Box.set20 | with_reducible apply Box.set21 | with_reducible apply Box.set40 | with_reducible apply Box.set41 | with_reducible apply Box.set42 | with_reducible apply Box.set43 | with_reducible apply Box.set50 | with_reducible apply Box.set51 | with_reducible apply Box.set52 | with_reducible apply Box.set53 | with_reducible apply Box.set54 | with_reducible apply Box.drew | (with_reducible apply Box.newAt; (try simp only [World.size_alloc, World.size_setCell, World.size_drew]); done) | with_reducible apply Box.alloc | (with_reducible apply Box.other; case hne => ((try simp only [World.size_alloc, World.size_setCell, World.size_drew]); omega))))
  have X3' : Box w2 (w1.heap.size) #[.int .u64 (limb 1 (farN R D ((n % 3000).toNat))), .int .u64 (limb 0 (farN R D ((n % 3000).toNat)))] := Box.call hb (by repeat (first | with_reducible assumption | with_reducible apply Box.set10 | with_reducible apply Box.set20 | with_reducible apply Box.set21 | with_reducible apply Box.set40 | with_reducible apply Box.set41 | with_reducible apply Box.set42 | with_reducible apply Box.set43 | with_reducible apply Box.set50 | with_reducible apply Box.set51 | with_reducible apply Box.set52 | with_reducible apply Box.set53 | with_reducible apply Box.set54 | with_reducible apply Box.drew | (with_reducible apply Box.newAt; (try simp only [World.size_alloc, World.size_setCell, World.size_drew]); done) | with_reducible apply Box.alloc | (with_reducible apply Box.other; case hne => ((try simp only [World.size_alloc, World.size_setCell, World.size_drew]); omega))))
  have hk' : Kept w.heap.size w w2 := Kept.step (by repeat (first | with_reducible exact hk | with_reducible exact Kept.refl _ | with_reducible refine Kept.alloc ?_ _ | with_reducible refine Kept.drew ?_ | with_reducible refine Kept.setCell ?_ (by simp only [World.size_alloc, World.size_setCell, World.size_drew]; omega) _)) hb
  clear hk hb
  clear X1 X1l1 X1l2 X1l3 X1f X10 X11
  clear X2 X2l1 X2l2 X2l3 X2f X20 X21
  have X1 := X1'
  clear X1'
  have X2 := X2'
  clear X2'
  have X3 := X3'
  clear X3'
  have hk := hk'
  clear hk'
  have hz_w2 := hk.size
  have X1l := X1.lt
  have X1f := X1.free
  have X1l1 : w.heap.size < w2.heap.size + 1 := by omega
  have X1l2 : w.heap.size < w2.heap.size + 1 + 1 := by omega
  have X1l3 : w.heap.size < w2.heap.size + 1 + 1 + 1 := by omega
  have X10 := X1.cell 0 _ rfl
  have X11 := X1.cell 1 _ rfl
  have X2l := X2.lt
  have X2f := X2.free
  have X2l1 : w.heap.size + 1 < w2.heap.size + 1 := by omega
  have X2l2 : w.heap.size + 1 < w2.heap.size + 1 + 1 := by omega
  have X2l3 : w.heap.size + 1 < w2.heap.size + 1 + 1 + 1 := by omega
  have X20 := X2.cell 0 _ rfl
  have X21 := X2.cell 1 _ rfl
  have X3l := X3.lt
  have X3f := X3.free
  have X3l1 : w1.heap.size < w2.heap.size + 1 := by omega
  have X3l2 : w1.heap.size < w2.heap.size + 1 + 1 := by omega
  have X3l3 : w1.heap.size < w2.heap.size + 1 + 1 + 1 := by omega
  have X30 := X3.cell 0 _ rfl
  have X31 := X3.cell 1 _ rfl
  go_wp2_with fail
  (with_reducible refine (calls_to (V := .tuple #[bitsV (farN R D ((n % 3000).toNat + (m % 3000).toNat)), .bool (oddF (farN R D ((n % 3000).toNat)) D ((m % 3000).toNat)), .bool true]) (Mod_at (IsBits.of (far_w _ (IsBits.of hD).w h _)) (IsBits.of hD) (far_lt R HP ((n % 3000).toNat)) ((m % 3000).toNat) (z := m % 3000) (by omega) (by omega) _) (by rw [EF.out])).mono ?_)
  rintro e w3 ⟨rfl, hb⟩
  have X1' : Box w3 (w.heap.size) #[.int .u64 (limb 1 R), .int .u64 (limb 0 R)] := Box.call hb (by repeat (first | with_reducible assumption | with_reducible apply Box.set10 | with_reducible apply Box.set20 | with_reducible apply Box.set21 | with_reducible apply Box.set40 | with_reducible apply Box.set41 | with_reducible apply Box.set42 | with_reducible apply Box.set43 | with_reducible apply Box.set50 | with_reducible apply Box.set51 | with_reducible apply Box.set52 | with_reducible apply Box.set53 | with_reducible apply Box.set54 | with_reducible apply Box.drew | (with_reducible apply Box.newAt; (try simp only [World.size_alloc, World.size_setCell, World.size_drew]); done) | with_reducible apply Box.alloc | (with_reducible apply Box.other; case hne => ((try simp only [World.size_alloc, World.size_setCell, World.size_drew]); omega))))
  have X2' : Box w3 (w.heap.size + 1) #[.int .u64 (limb 1 D), .int .u64 (limb 0 D)] := Box.call hb (by repeat (first | with_reducible assumption | with_reducible apply Box.set10 | with_reducible apply Box.set20 | with_reducible apply Box.set21 | with_reducible apply Box.set40 | with_reducible apply Box.set41 | with_reducible apply Box.set42 | with_reducible apply Box.set43 | with_reducible apply Box.set50 | with_reducible apply Box.set51 | with_reducible apply Box.set52 | with_reducible apply Box.set53 | with_reducible apply Box.set54 | with_reducible apply Box.drew | (with_reducible apply Box.newAt; (try simp only [World.size_alloc, World.size_setCell, World.size_drew]); done) | with_reducible apply Box.alloc | (with_reducible apply Box.other; case hne => ((try simp only [World.size_alloc, World.size_setCell, World.size_drew]); omega))))
  have hk' : Kept w.heap.size w w3 := Kept.step (by repeat (first | with_reducible exact hk | with_reducible exact Kept.refl _ | with_reducible refine Kept.alloc ?_ _ | with_reducible refine Kept.drew ?_ | with_reducible refine Kept.setCell ?_ (by simp only [World.size_alloc, World.size_setCell, World.size_drew]; omega) _)) hb
  clear hk hb
  clear X1 X1l1 X1l2 X1l3 X1f X10 X11
  clear X2 X2l1 X2l2 X2l3 X2f X20 X21
  clear X3 X3l1 X3l2 X3l3 X3f X30 X31
  have X1 := X1'
  clear X1'
  have X2 := X2'
  clear X2'
  have hk := hk'
  clear hk'
  have hz_w3 := hk.size
  have X1l := X1.lt
  have X1f := X1.free
  have X1l1 : w.heap.size < w3.heap.size + 1 := by omega
  have X1l2 : w.heap.size < w3.heap.size + 1 + 1 := by omega
  have X1l3 : w.heap.size < w3.heap.size + 1 + 1 + 1 := by omega
  have X10 := X1.cell 0 _ rfl
  have X11 := X1.cell 1 _ rfl
  have X2l := X2.lt
  have X2f := X2.free
  have X2l1 : w.heap.size + 1 < w3.heap.size + 1 := by omega
  have X2l2 : w.heap.size + 1 < w3.heap.size + 1 + 1 := by omega
  have X2l3 : w.heap.size + 1 < w3.heap.size + 1 + 1 + 1 := by omega
  have X20 := X2.cell 0 _ rfl
  have X21 := X2.cell 1 _ rfl
  go_upto_region 6 with fail
  refine wp_region_p 13 (fun W' => Kept w.heap.size w W' ∧ w3.heap.size + 1 ≤ W'.heap.size ∧ Box W' (w.heap.size) #[.int .u64 (limb 1 R), .int .u64 (limb 0 R)] ∧ Box W' (w.heap.size + 1) #[.int .u64 (limb 1 D), .int .u64 (limb 0 D)] ∧ Box W' (w3.heap.size) #[.int .u64 (limb 1 (farN R D ((n % 3000).toNat + (m % 3000).toNat))), .int .u64 (limb 0 (farN R D ((n % 3000).toNat + (m % 3000).toNat)))]) (fun W' => Kept w.heap.size w W' ∧ w3.heap.size + 1 ≤ W'.heap.size ∧ Box W' (w.heap.size) #[.int .u64 (limb 1 R), .int .u64 (limb 0 R)] ∧ Box W' (w.heap.size + 1) #[.int .u64 (limb 1 D), .int .u64 (limb 0 D)] ∧ Box W' (w3.heap.size) #[.int .u64 (limb 1 (farN R D ((n % 3000).toNat + (m % 3000).toNat))), .int .u64 (limb 0 (farN R D ((n % 3000).toNat + (m % 3000).toNat)))]) 1000 (w3.heap.size + 1) [.known (bitsV R), .known (.int .i64 (n % 3000)), .known (.int .i64 (m % 3000)), .known (.int .i64 (n % 3000 + m % 3000)), .known (bitsV D), .known (.tuple #[bitsV (farN R D ((n % 3000).toNat + (m % 3000).toNat)), .bool (oddF R D ((n % 3000).toNat + (m % 3000).toNat)), .bool true]), .known (.tuple #[bitsV (farN R D ((n % 3000).toNat + (m % 3000).toNat)), .bool (oddF R D ((n % 3000).toNat + (m % 3000).toNat)), .bool true]), .known (bitsV (farN R D ((n % 3000).toNat + (m % 3000).toNat))), .known (.bool (oddF R D ((n % 3000).toNat + (m % 3000).toNat))), .known (.bool true), .var #[.int .u64 0, .int .u64 0] 11 [.int .u64 (limb 1 (farN R D ((n % 3000).toNat + (m % 3000).toNat))), .int .u64 (limb 0 (farN R D ((n % 3000).toNat + (m % 3000).toNat)))], .put 10, .known (.bool (oddF R D ((n % 3000).toNat + (m % 3000).toNat)))] (by kernel_rfl) (by kernel_rfl) (fun W W' h hb => ⟨h.1.step hb, Nat.le_trans (h.2.1) hb.size, Box.call hb (h.2.2.1), Box.call hb (h.2.2.2.1), Box.call hb (h.2.2.2.2)⟩) (fun W W' h hb => ⟨h.1.step hb, Nat.le_trans (h.2.1) hb.size, Box.call hb (h.2.2.1), Box.call hb (h.2.2.2.1), Box.call hb (h.2.2.2.2)⟩) (no_out (of_decide_eq_true (by kernel_rfl))) (.inr (fun W' b i v hb h => ⟨h.1.setCell (p := ⟨b, i, none⟩) (by simp only []; omega) v, (by rw [World.size_setCell]; exact h.2.1), (h.2.2.1).other (by omega), (h.2.2.2.1).other (by omega), (h.2.2.2.2).other (by omega)⟩)) (.inr (fun W' b i v hb h => ⟨h.1.setCell (p := ⟨b, i, none⟩) (by simp only []; omega) v, (by rw [World.size_setCell]; exact h.2.1), (h.2.2.1).other (by omega), (h.2.2.2.1).other (by omega), (h.2.2.2.2).other (by omega)⟩)) (fun _ h => h.2.1) (fun _ h => h.2.1) (⟨(by repeat (first | with_reducible exact hk | with_reducible exact Kept.refl _ | with_reducible refine Kept.alloc ?_ _ | with_reducible refine Kept.drew ?_ | with_reducible refine Kept.setCell ?_ (by simp only [World.size_alloc, World.size_setCell, World.size_drew]; omega) _)), (by (try simp only [World.size_alloc, World.size_setCell, World.size_drew]); omega), (by repeat (first | with_reducible assumption | with_reducible apply Box.set10 | with_reducible apply Box.set20 | with_reducible apply Box.set21 | with_reducible apply Box.set40 | with_reducible apply Box.set41 | with_reducible apply Box.set42 | with_reducible apply Box.set43 | with_reducible apply Box.set50 | with_reducible apply Box.set51 | with_reducible apply Box.set52 | with_reducible apply Box.set53 | with_reducible apply Box.set54 | with_reducible apply Box.drew | (with_reducible apply Box.newAt; (try simp only [World.size_alloc, World.size_setCell, World.size_drew]); done) | with_reducible apply Box.alloc | (with_reducible apply Box.other; case hne => ((try simp only [World.size_alloc, World.size_setCell, World.size_drew]); omega)))), (by repeat (first | with_reducible assumption | with_reducible apply Box.set10 | with_reducible apply Box.set20 | with_reducible apply Box.set21 | with_reducible apply Box.set40 | with_reducible apply Box.set41 | with_reducible apply Box.set42 | with_reducible apply Box.set43 | with_reducible apply Box.set50 | with_reducible apply Box.set51 | with_reducible apply Box.set52 | with_reducible apply Box.set53 | with_reducible apply Box.set54 | with_reducible apply Box.drew | (with_reducible apply Box.newAt; (try simp only [World.size_alloc, World.size_setCell, World.size_drew]); done) | with_reducible apply Box.alloc | (with_reducible apply Box.other; case hne => ((try simp only [World.size_alloc, World.size_setCell, World.size_drew]); omega)))), (by repeat (first | with_reducible assumption | with_reducible apply Box.set10 | with_reducible apply Box.set20 | with_reducible apply Box.set21 | with_reducible apply Box.set40 | with_reducible apply Box.set41 | with_reducible apply Box.set42 | with_reducible apply Box.set43 | with_reducible apply Box.set50 | with_reducible apply Box.set51 | with_reducible apply Box.set52 | with_reducible apply Box.set53 | with_reducible apply Box.set54 | with_reducible apply Box.drew | (with_reducible apply Box.newAt; (try simp only [World.size_alloc, World.size_setCell, World.size_drew]); done) | with_reducible apply Box.alloc | (with_reducible apply Box.other; case hne => ((try simp only [World.size_alloc, World.size_setCell, World.size_drew]); omega))))⟩) ?_
  clear hk
  clear X1 X1l1 X1l2 X1l3 X1f X10 X11
  clear X2 X2l1 X2l2 X2l3 X2f X20 X21
  intro ρ
  simp only [List.take_succ_cons, List.take_zero, List.drop_succ_cons, List.drop_zero]
  refine ⟨?_, ?_⟩
  · as_aux_lemma =>
    intro y_ hS_ hD
    have hS := hS_ (by rfl)
    have Q := (hS.2.2.1).cell
    have q0 := Q 0 _ rfl
    have q1 := Q 1 _ rfl
    clear Q hS hS_ hD
    refine s_gen (V := bitsV R) [.pointer (some ⟨w.heap.size, 0, none⟩)] (by kernel_rfl) (by kernel_rfl) (by kernel_rfl) ?_
    intro r_ hr_
    have o0_ : r_ (.tmp 4) = .pointer (some ⟨w.heap.size, 0, none⟩) := op_at hr_ 0 (by kernel_rfl) (by kernel_rfl)
    clear hr_
    go_simp; first | done | with_reducible rfl
  simp only [Act.put, planVG, List.setIfInBounds_toArray, List.set_cons_zero, List.set_cons_succ, List.getElem?_cons_zero, List.getElem?_cons_succ]
  refine ⟨?_, ?_⟩
  · as_aux_lemma =>
    intro y_ hS_ hD
    clear hS_ hD
    refine s_gen (V := .int .i64 (n % 3000)) [.int .i64 (n % 3000)] (by kernel_rfl) (by kernel_rfl) (by kernel_rfl) ?_
    intro r_ hr_
    have o0_ : r_ (.tmp 9) = .int .i64 (n % 3000) := op_at hr_ 0 (by kernel_rfl) (by kernel_rfl)
    clear hr_
    go_simp; first | done | with_reducible rfl
  simp only [Act.put, planVG, List.setIfInBounds_toArray, List.set_cons_zero, List.set_cons_succ, List.getElem?_cons_zero, List.getElem?_cons_succ]
  refine ⟨?_, ?_⟩
  · as_aux_lemma =>
    intro y_ hS_ hD
    clear hS_ hD
    refine s_gen (V := .int .i64 (m % 3000)) [.int .i64 (m % 3000)] (by kernel_rfl) (by kernel_rfl) (by kernel_rfl) ?_
    intro r_ hr_
    have o0_ : r_ (.tmp 10) = .int .i64 (m % 3000) := op_at hr_ 0 (by kernel_rfl) (by kernel_rfl)
    clear hr_
    go_simp; first | done | with_reducible rfl
  simp only [Act.put, planVG, List.setIfInBounds_toArray, List.set_cons_zero, List.set_cons_succ, List.getElem?_cons_zero, List.getElem?_cons_succ]
  refine ⟨?_, ?_⟩
  · as_aux_lemma =>
    intro y_ hS_ hD
    clear hS_ hD
    refine s_gen (V := .int .i64 (n % 3000 + m % 3000)) [.int .i64 (n % 3000), .int .i64 (m % 3000)] (by kernel_rfl) (by kernel_rfl) (by kernel_rfl) ?_
    intro r_ hr_
    have o0_ : r_ (.tmp 59) = .int .i64 (n % 3000) := op_at hr_ 0 (by kernel_rfl) (by kernel_rfl)
    have o1_ : r_ (.tmp 60) = .int .i64 (m % 3000) := op_at hr_ 1 (by kernel_rfl) (by kernel_rfl)
    clear hr_
    go_simp; first | done | with_reducible rfl
  simp only [Act.put, planVG, List.setIfInBounds_toArray, List.set_cons_zero, List.set_cons_succ, List.getElem?_cons_zero, List.getElem?_cons_succ]
  refine ⟨?_, ?_⟩
  · as_aux_lemma =>
    intro y_ hS_ hD
    have hS := hS_ (by rfl)
    have Q := (hS.2.2.2.1).cell
    have q0 := Q 0 _ rfl
    have q1 := Q 1 _ rfl
    clear Q hS hS_ hD
    refine s_gen (V := bitsV D) [.pointer (some ⟨w.heap.size + 1, 0, none⟩)] (by kernel_rfl) (by kernel_rfl) (by kernel_rfl) ?_
    intro r_ hr_
    have o0_ : r_ (.tmp 7) = .pointer (some ⟨w.heap.size + 1, 0, none⟩) := op_at hr_ 0 (by kernel_rfl) (by kernel_rfl)
    clear hr_
    go_simp; first | done | with_reducible rfl
  simp only [Act.put, planVG, List.setIfInBounds_toArray, List.set_cons_zero, List.set_cons_succ, List.getElem?_cons_zero, List.getElem?_cons_succ]
  refine ⟨?_, ?_⟩
  · as_aux_lemma =>
    intro y_ hS_ hD
    try clear hS
    clear hS_ hD
    refine s_gcall (V := .tuple #[bitsV (farN R D ((n % 3000).toNat + (m % 3000).toNat)), .bool (oddF R D ((n % 3000).toNat + (m % 3000).toNat)), .bool true]) [.func (.func 38) #[] #[], bitsV R, .int .i64 (n % 3000 + m % 3000), bitsV D] ?_ ?_ (by kernel_rfl) (by kernel_rfl) (by kernel_rfl) ?_ ?_
    rotate_left 2
    · intro r_ hr_
      have o0_ : r_ (.func 38) = .func (.func 38) #[] #[] := op_at hr_ 0 (by kernel_rfl) (by kernel_rfl)
      have o1_ : r_ (.tmp 58) = bitsV R := op_at hr_ 1 (by kernel_rfl) (by kernel_rfl)
      have o2_ : r_ (.tmp 61) = .int .i64 (n % 3000 + m % 3000) := op_at hr_ 2 (by kernel_rfl) (by kernel_rfl)
      have o3_ : r_ (.tmp 62) = bitsV D := op_at hr_ 3 (by kernel_rfl) (by kernel_rfl)
      clear hr_
      go_simp; first | done | with_reducible rfl | (constructor <;> with_reducible rfl)
    · refine Mod_at (IsBits.of hR) (IsBits.of hD) h ((n % 3000).toNat + (m % 3000).toNat) (z := n % 3000 + m % 3000) (by omega) (by omega) _
  simp only [Act.put, planVG, List.setIfInBounds_toArray, List.set_cons_zero, List.set_cons_succ, List.getElem?_cons_zero, List.getElem?_cons_succ]
  refine ⟨?_, ?_⟩
  · as_aux_lemma =>
    intro y_ hS_ hD
    clear hS_ hD
    refine s_gen (V := .tuple #[bitsV (farN R D ((n % 3000).toNat + (m % 3000).toNat)), .bool (oddF R D ((n % 3000).toNat + (m % 3000).toNat)), .bool true]) [.tuple #[bitsV (farN R D ((n % 3000).toNat + (m % 3000).toNat)), .bool (oddF R D ((n % 3000).toNat + (m % 3000).toNat)), .bool true]] (by kernel_rfl) (by kernel_rfl) (by kernel_rfl) ?_
    intro r_ hr_
    have o0_ : r_ (.tmp 63) = .tuple #[bitsV (farN R D ((n % 3000).toNat + (m % 3000).toNat)), .bool (oddF R D ((n % 3000).toNat + (m % 3000).toNat)), .bool true] := op_at hr_ 0 (by kernel_rfl) (by kernel_rfl)
    clear hr_
    go_simp; first | done | with_reducible rfl
  simp only [Act.put, planVG, List.setIfInBounds_toArray, List.set_cons_zero, List.set_cons_succ, List.getElem?_cons_zero, List.getElem?_cons_succ]
  refine ⟨?_, ?_⟩
  · as_aux_lemma =>
    intro y_ hS_ hD
    clear hS_ hD
    refine s_gen (V := bitsV (farN R D ((n % 3000).toNat + (m % 3000).toNat))) [.tuple #[bitsV (farN R D ((n % 3000).toNat + (m % 3000).toNat)), .bool (oddF R D ((n % 3000).toNat + (m % 3000).toNat)), .bool true]] (by kernel_rfl) (by kernel_rfl) (by kernel_rfl) ?_
    intro r_ hr_
    have o0_ : r_ (.tmp 57) = .tuple #[bitsV (farN R D ((n % 3000).toNat + (m % 3000).toNat)), .bool (oddF R D ((n % 3000).toNat + (m % 3000).toNat)), .bool true] := op_at hr_ 0 (by kernel_rfl) (by kernel_rfl)
    clear hr_
    go_simp; first | done | with_reducible rfl
  simp only [Act.put, planVG, List.setIfInBounds_toArray, List.set_cons_zero, List.set_cons_succ, List.getElem?_cons_zero, List.getElem?_cons_succ]
  refine ⟨?_, ?_⟩
  · as_aux_lemma =>
    intro y_ hS_ hD
    clear hS_ hD
    refine s_gen (V := .bool (oddF R D ((n % 3000).toNat + (m % 3000).toNat))) [.tuple #[bitsV (farN R D ((n % 3000).toNat + (m % 3000).toNat)), .bool (oddF R D ((n % 3000).toNat + (m % 3000).toNat)), .bool true]] (by kernel_rfl) (by kernel_rfl) (by kernel_rfl) ?_
    intro r_ hr_
    have o0_ : r_ (.tmp 57) = .tuple #[bitsV (farN R D ((n % 3000).toNat + (m % 3000).toNat)), .bool (oddF R D ((n % 3000).toNat + (m % 3000).toNat)), .bool true] := op_at hr_ 0 (by kernel_rfl) (by kernel_rfl)
    clear hr_
    go_simp; first | done | with_reducible rfl
  simp only [Act.put, planVG, List.setIfInBounds_toArray, List.set_cons_zero, List.set_cons_succ, List.getElem?_cons_zero, List.getElem?_cons_succ]
  refine ⟨?_, ?_⟩
  · as_aux_lemma =>
    intro y_ hS_ hD
    clear hS_ hD
    refine s_gen (V := .bool true) [.tuple #[bitsV (farN R D ((n % 3000).toNat + (m % 3000).toNat)), .bool (oddF R D ((n % 3000).toNat + (m % 3000).toNat)), .bool true]] (by kernel_rfl) (by kernel_rfl) (by kernel_rfl) ?_
    intro r_ hr_
    have o0_ : r_ (.tmp 57) = .tuple #[bitsV (farN R D ((n % 3000).toNat + (m % 3000).toNat)), .bool (oddF R D ((n % 3000).toNat + (m % 3000).toNat)), .bool true] := op_at hr_ 0 (by kernel_rfl) (by kernel_rfl)
    clear hr_
    go_simp; first | done | with_reducible rfl
  simp only [Act.put, planVG, List.setIfInBounds_toArray, List.set_cons_zero, List.set_cons_succ, List.getElem?_cons_zero, List.getElem?_cons_succ]
  refine ⟨?_, ?_⟩
  · as_aux_lemma =>
    intro y_ hS_ hD
    clear hS_ hD
    refine s_alloc (by rfl) (by rfl) ?_
    simp only [allocTy]
    go_simp; first | done | with_reducible rfl | rfl
  simp only [Act.put, planVG, List.setIfInBounds_toArray, List.set_cons_zero, List.set_cons_succ, List.getElem?_cons_zero, List.getElem?_cons_succ]
  refine ⟨?_, ?_⟩
  · as_aux_lemma =>
    intro y_ hS_ hD
    have hS := hS_ (by rfl)
    clear hS hS_ hD
    refine s_gput (j := 10) (Z := #[.int .u64 0, .int .u64 0]) (V := [.int .u64 (limb 1 (farN R D ((n % 3000).toNat + (m % 3000).toNat))), .int .u64 (limb 0 (farN R D ((n % 3000).toNat + (m % 3000).toNat)))]) [ρ 10, bitsV (farN R D ((n % 3000).toNat + (m % 3000).toNat))] (by kernel_rfl) (by kernel_rfl) (by kernel_rfl) (by kernel_rfl) ?_
    intro r_ b hr_ hb hB F
    have o0_ : r_ (.tmp 17) = ρ 10 := op_at hr_ 0 (by kernel_rfl) (by kernel_rfl)
    have o1_ : r_ (.tmp 64) = bitsV (farN R D ((n % 3000).toNat + (m % 3000).toNat)) := op_at hr_ 1 (by kernel_rfl) (by kernel_rfl)
    clear hr_
    rw [hb] at o0_
    have Q := F.cell
    have q0 := Q 0 _ rfl
    have q1 := Q 1 _ rfl
    have Qf := F.free
    have Ql := F.lt
    clear Q F
    simp only [putCells]
    go_simp; first | done | with_reducible rfl | rfl
  simp only [Act.put, planVG, List.setIfInBounds_toArray, List.set_cons_zero, List.set_cons_succ, List.getElem?_cons_zero, List.getElem?_cons_succ]
  refine ⟨?_, ?_⟩
  · as_aux_lemma =>
    intro y_ hS_ hD
    clear hS_ hD
    refine s_gen (V := .bool (oddF R D ((n % 3000).toNat + (m % 3000).toNat))) [.bool (oddF R D ((n % 3000).toNat + (m % 3000).toNat))] (by kernel_rfl) (by kernel_rfl) (by kernel_rfl) ?_
    intro r_ hr_
    have o0_ : r_ (.tmp 65) = .bool (oddF R D ((n % 3000).toNat + (m % 3000).toNat)) := op_at hr_ 0 (by kernel_rfl) (by kernel_rfl)
    clear hr_
    go_simp; first | done | with_reducible rfl
  simp only [Act.put, planVG, List.setIfInBounds_toArray, List.set_cons_zero, List.set_cons_succ, List.getElem?_cons_zero, List.getElem?_cons_succ]
  as_aux_lemma =>
    intro w4 hS hF hD_
    change wpList _ _ _ _ _ _
    replace hS := sg_no (by decide) hS
    obtain ⟨hk, hZ4, X1, X2, X4⟩ := hS
    obtain ⟨v6_10, e_v6_10, hv6_10, Bv6_10⟩ : ∃ b, ρ 10 = .pointer (some ⟨b, 0, none⟩) ∧ w3.heap.size + 1 ≤ b ∧ Box w4 b #[.int .u64 (limb 1 (farN R D ((n % 3000).toNat + (m % 3000).toNat))), .int .u64 (limb 0 (farN R D ((n % 3000).toNat + (m % 3000).toNat)))] := by
      obtain ⟨b, h1, h2, h3⟩ := hF 10 (by decide)
      exact ⟨b, h1, h2, h3.lt, h3.cell, h3.free⟩
    clear hF hD_
    simp only [e_v6_10]
    clear e_v6_10
    clear ρ
    have hz_w4 := hk.size
    have X1l := X1.lt
    have X1f := X1.free
    have X1l1 : w.heap.size < w4.heap.size + 1 := by omega
    have X1l2 : w.heap.size < w4.heap.size + 1 + 1 := by omega
    have X1l3 : w.heap.size < w4.heap.size + 1 + 1 + 1 := by omega
    have X10 := X1.cell 0 _ rfl
    have X11 := X1.cell 1 _ rfl
    have X2l := X2.lt
    have X2f := X2.free
    have X2l1 : w.heap.size + 1 < w4.heap.size + 1 := by omega
    have X2l2 : w.heap.size + 1 < w4.heap.size + 1 + 1 := by omega
    have X2l3 : w.heap.size + 1 < w4.heap.size + 1 + 1 + 1 := by omega
    have X20 := X2.cell 0 _ rfl
    have X21 := X2.cell 1 _ rfl
    have X4l := X4.lt
    have X4f := X4.free
    have X4l1 : w3.heap.size < w4.heap.size + 1 := by omega
    have X4l2 : w3.heap.size < w4.heap.size + 1 + 1 := by omega
    have X4l3 : w3.heap.size < w4.heap.size + 1 + 1 + 1 := by omega
    have X40 := X4.cell 0 _ rfl
    have X41 := X4.cell 1 _ rfl
    have Bv6_10l := Bv6_10.lt
    have Bv6_10f := Bv6_10.free
    have Bv6_10l1 : v6_10 < w4.heap.size + 1 := by omega
    have Bv6_10l2 : v6_10 < w4.heap.size + 1 + 1 := by omega
    have Bv6_10l3 : v6_10 < w4.heap.size + 1 + 1 + 1 := by omega
    have Bv6_100 := Bv6_10.cell 0 _ rfl
    have Bv6_101 := Bv6_10.cell 1 _ rfl
    go_wp2_with fail
    (with_reducible refine (goes05_any _).mono ?_)
    rintro e w5 ⟨rfl, hb⟩
    have hk' : Kept w.heap.size w w5 := Kept.step (by repeat (first | with_reducible exact hk | with_reducible exact Kept.refl _ | with_reducible refine Kept.alloc ?_ _ | with_reducible refine Kept.drew ?_ | with_reducible refine Kept.setCell ?_ (by simp only [World.size_alloc, World.size_setCell, World.size_drew]; omega) _)) hb
    clear hk hb
    clear X1 X1l1 X1l2 X1l3 X1f X10 X11
    clear X2 X2l1 X2l2 X2l3 X2f X20 X21
    clear X4 X4l1 X4l2 X4l3 X4f X40 X41
    clear Bv6_10 Bv6_10l1 Bv6_10l2 Bv6_10l3 Bv6_10f Bv6_100 Bv6_101
    have hk := hk'
    clear hk'
    have hz_w5 := hk.size
    go_wp2
    go_ret
    exact ⟨rfl, (by refine Kept.below ?_; repeat (first | with_reducible exact hk | with_reducible exact Kept.refl _ | with_reducible refine Kept.alloc ?_ _ | with_reducible refine Kept.drew ?_ | with_reducible refine Kept.setCell ?_ (by simp only [World.size_alloc, World.size_setCell, World.size_drew]; omega) _))⟩

set_option maxRecDepth 100000 in
set_option maxHeartbeats 8000000 in
theorem QuotTwice_0zero {R D : Nat} {n m : Int} (hR : W128 R) (hD : W128 D) (n0 : 0 ≤ n) (n1 : n ≤ 65535) (m0 : 0 ≤ m) (m1 : m ≤ 65535) (h : R < D) (y0 : m % 3000 = 0) (x0 : n % 3000 = 0) (w : World) :
    Calls Try.prog 13 #[bitsV R, .int .u16 n, .int .u16 m, bitsV D] w fun e w' => e = .returned (.bool true) ∧ Below w.heap.size w w' := by
  have hk := Kept.refl w
  have c1 := cmp_lt h
  have HP : 0 < D := by omega
  have EF := Lib.hid (far_far R D ((n % 3000).toNat) ((m % 3000).toNat))
  have ww : IntKind.i64.wrap (n % 3000 + m % 3000) = n % 3000 + m % 3000 := IntWalk.i64_in _ (by omega)
  obtain ⟨el, eb⟩ := qt_left (D := D) (x := n % 3000) hR (by omega) (by omega)
  have ox : oddF R D ((n % 3000).toNat) = false := by rw [show (n % 3000).toNat = 0 by omega]; exact odd_zero h
  rw [ox] at eb
  have eb2 : bits .and .u64 (limb 0 (divN (left256 R (n % 3000)) D)) 1 = 0 := eb
  clear eb
  have EL := Lib.hid el; have OX := Lib.hid ox
  clear el ox
  have yn : ¬ 0 < m % 3000 := by omega
  clear y0
  have xn : ¬ 0 < n % 3000 := by omega
  have xf : ¬ 128 < n % 3000 := by omega
  clear x0
  go_enter Try.func13, Try.ntmps13
  go_wp2_with fail
  (with_reducible refine (calls_to (V := .tuple #[bitsV (farN R D ((n % 3000).toNat)), .bool false, .bool true]) (Mod_at (IsBits.of hR) (IsBits.of hD) h ((n % 3000).toNat) (z := n % 3000) (by omega) (by omega) _) (by rw [OX.out])).mono ?_)
  rintro e w1 ⟨rfl, hb⟩
  have X1' : Box w1 (w.heap.size) #[.int .u64 (limb 1 R), .int .u64 (limb 0 R)] := Box.call hb (by repeat (first | with_reducible assumption | with_reducible apply Box.set10 | with_reducible apply Box.set20 | with_reducible apply Box.set21 | with_reducible apply Box.set40 | with_reducible apply Box.set41 | with_reducible apply Box.set42 | with_reducible apply Box.set43 | with_reducible apply Box.set50 | with_reducible apply Box.set51 | with_reducible apply Box.set52 | with_reducible apply Box.set53 | with_reducible apply Box.set54 | with_reducible apply Box.drew | (with_reducible apply Box.newAt; (try simp only [World.size_alloc, World.size_setCell, World.size_drew]); done) | with_reducible apply Box.alloc | (with_reducible apply Box.other; case hne => ((try simp only [World.size_alloc, World.size_setCell, World.size_drew]); omega))))
  have X2' : Box w1 (w.heap.size + 1) #[.int .u64 (limb 1 D), .int .u64 (limb 0 D)] := Box.call hb (by repeat (first | with_reducible assumption | with_reducible apply Box.set10 | with_reducible apply Box.set20 | with_reducible apply Box.set21 | with_reducible apply Box.set40 | with_reducible apply Box.set41 | with_reducible apply Box.set42 | with_reducible apply Box.set43 | with_reducible apply Box.set50 | with_reducible apply Box.set51 | with_reducible apply Box.set52 | with_reducible apply Box.set53 | with_reducible apply Box.set54 | with_reducible apply Box.drew | (with_reducible apply Box.newAt; (try simp only [World.size_alloc, World.size_setCell, World.size_drew]); done) | with_reducible apply Box.alloc | (with_reducible apply Box.other; case hne => ((try simp only [World.size_alloc, World.size_setCell, World.size_drew]); omega))))
  have hk' : Kept w.heap.size w w1 := Kept.step (by repeat (first | with_reducible exact hk | with_reducible exact Kept.refl _ | with_reducible refine Kept.alloc ?_ _ | with_reducible refine Kept.drew ?_ | with_reducible refine Kept.setCell ?_ (by simp only [World.size_alloc, World.size_setCell, World.size_drew]; omega) _)) hb
  clear hk hb
  have X1 := X1'
  clear X1'
  have X2 := X2'
  clear X2'
  have hk := hk'
  clear hk'
  have hz_w1 := hk.size
  have X1l := X1.lt
  have X1f := X1.free
  have X1l1 : w.heap.size < w1.heap.size + 1 := by omega
  have X1l2 : w.heap.size < w1.heap.size + 1 + 1 := by omega
  have X1l3 : w.heap.size < w1.heap.size + 1 + 1 + 1 := by omega
  have X10 := X1.cell 0 _ rfl
  have X11 := X1.cell 1 _ rfl
  have X2l := X2.lt
  have X2f := X2.free
  have X2l1 : w.heap.size + 1 < w1.heap.size + 1 := by omega
  have X2l2 : w.heap.size + 1 < w1.heap.size + 1 + 1 := by omega
  have X2l3 : w.heap.size + 1 < w1.heap.size + 1 + 1 + 1 := by omega
  have X20 := X2.cell 0 _ rfl
  have X21 := X2.cell 1 _ rfl
  go_wp2_with fail
  (with_reducible refine (Cmp_at (IsBits.of hR) (IsBits.of hD) _).mono ?_)
  rintro e w2 ⟨rfl, hb⟩
  have X1' : Box w2 (w.heap.size) #[.int .u64 (limb 1 R), .int .u64 (limb 0 R)] := Box.call hb (by repeat (first | with_reducible assumption | with_reducible apply Box.set10 | with_reducible apply Box.set20 | with_reducible apply Box.set21 | with_reducible apply Box.set40 | with_reducible apply Box.set41 | with_reducible apply Box.set42 | with_reducible apply Box.set43 | with_reducible apply Box.set50 | with_reducible apply Box.set51 | with_reducible apply Box.set52 | with_reducible apply Box.set53 | with_reducible apply Box.set54 | with_reducible apply Box.drew | (with_reducible apply Box.newAt; (try simp only [World.size_alloc, World.size_setCell, World.size_drew]); done) | with_reducible apply Box.alloc | (with_reducible apply Box.other; case hne => ((try simp only [World.size_alloc, World.size_setCell, World.size_drew]); omega))))
  have X2' : Box w2 (w.heap.size + 1) #[.int .u64 (limb 1 D), .int .u64 (limb 0 D)] := Box.call hb (by repeat (first | with_reducible assumption | with_reducible apply Box.set10 | with_reducible apply Box.set20 | with_reducible apply Box.set21 | with_reducible apply Box.set40 | with_reducible apply Box.set41 | with_reducible apply Box.set42 | with_reducible apply Box.set43 | with_reducible apply Box.set50 | with_reducible apply Box.set51 | with_reducible apply Box.set52 | with_reducible apply Box.set53 | with_reducible apply Box.set54 | with_reducible apply Box.drew | (with_reducible apply Box.newAt; (try simp only [World.size_alloc, World.size_setCell, World.size_drew]); done) | with_reducible apply Box.alloc | (with_reducible apply Box.other; case hne => ((try simp only [World.size_alloc, World.size_setCell, World.size_drew]); omega))))
  have X3' : Box w2 (w1.heap.size) #[.int .u64 (limb 1 (farN R D ((n % 3000).toNat))), .int .u64 (limb 0 (farN R D ((n % 3000).toNat)))] := Box.call hb (by repeat (first | with_reducible assumption | with_reducible apply Box.set10 | with_reducible apply Box.set20 | with_reducible apply Box.set21 | with_reducible apply Box.set40 | with_reducible apply Box.set41 | with_reducible apply Box.set42 | with_reducible apply Box.set43 | with_reducible apply Box.set50 | with_reducible apply Box.set51 | with_reducible apply Box.set52 | with_reducible apply Box.set53 | with_reducible apply Box.set54 | with_reducible apply Box.drew | (with_reducible apply Box.newAt; (try simp only [World.size_alloc, World.size_setCell, World.size_drew]); done) | with_reducible apply Box.alloc | (with_reducible apply Box.other; case hne => ((try simp only [World.size_alloc, World.size_setCell, World.size_drew]); omega))))
  have hk' : Kept w.heap.size w w2 := Kept.step (by repeat (first | with_reducible exact hk | with_reducible exact Kept.refl _ | with_reducible refine Kept.alloc ?_ _ | with_reducible refine Kept.drew ?_ | with_reducible refine Kept.setCell ?_ (by simp only [World.size_alloc, World.size_setCell, World.size_drew]; omega) _)) hb
  clear hk hb
  clear X1 X1l1 X1l2 X1l3 X1f X10 X11
  clear X2 X2l1 X2l2 X2l3 X2f X20 X21
  have X1 := X1'
  clear X1'
  have X2 := X2'
  clear X2'
  have X3 := X3'
  clear X3'
  have hk := hk'
  clear hk'
  have hz_w2 := hk.size
  have X1l := X1.lt
  have X1f := X1.free
  have X1l1 : w.heap.size < w2.heap.size + 1 := by omega
  have X1l2 : w.heap.size < w2.heap.size + 1 + 1 := by omega
  have X1l3 : w.heap.size < w2.heap.size + 1 + 1 + 1 := by omega
  have X10 := X1.cell 0 _ rfl
  have X11 := X1.cell 1 _ rfl
  have X2l := X2.lt
  have X2f := X2.free
  have X2l1 : w.heap.size + 1 < w2.heap.size + 1 := by omega
  have X2l2 : w.heap.size + 1 < w2.heap.size + 1 + 1 := by omega
  have X2l3 : w.heap.size + 1 < w2.heap.size + 1 + 1 + 1 := by omega
  have X20 := X2.cell 0 _ rfl
  have X21 := X2.cell 1 _ rfl
  have X3l := X3.lt
  have X3f := X3.free
  have X3l1 : w1.heap.size < w2.heap.size + 1 := by omega
  have X3l2 : w1.heap.size < w2.heap.size + 1 + 1 := by omega
  have X3l3 : w1.heap.size < w2.heap.size + 1 + 1 + 1 := by omega
  have X30 := X3.cell 0 _ rfl
  have X31 := X3.cell 1 _ rfl
  go_wp2_with fail
  (with_reducible refine (calls_to (V := .tuple #[bitsV (farN R D ((n % 3000).toNat + (m % 3000).toNat)), .bool (oddF (farN R D ((n % 3000).toNat)) D ((m % 3000).toNat)), .bool true]) (Mod_at (IsBits.of (far_w _ (IsBits.of hD).w h _)) (IsBits.of hD) (far_lt R HP ((n % 3000).toNat)) ((m % 3000).toNat) (z := m % 3000) (by omega) (by omega) _) (by rw [EF.out])).mono ?_)
  rintro e w3 ⟨rfl, hb⟩
  have X1' : Box w3 (w.heap.size) #[.int .u64 (limb 1 R), .int .u64 (limb 0 R)] := Box.call hb (by repeat (first | with_reducible assumption | with_reducible apply Box.set10 | with_reducible apply Box.set20 | with_reducible apply Box.set21 | with_reducible apply Box.set40 | with_reducible apply Box.set41 | with_reducible apply Box.set42 | with_reducible apply Box.set43 | with_reducible apply Box.set50 | with_reducible apply Box.set51 | with_reducible apply Box.set52 | with_reducible apply Box.set53 | with_reducible apply Box.set54 | with_reducible apply Box.drew | (with_reducible apply Box.newAt; (try simp only [World.size_alloc, World.size_setCell, World.size_drew]); done) | with_reducible apply Box.alloc | (with_reducible apply Box.other; case hne => ((try simp only [World.size_alloc, World.size_setCell, World.size_drew]); omega))))
  have X2' : Box w3 (w.heap.size + 1) #[.int .u64 (limb 1 D), .int .u64 (limb 0 D)] := Box.call hb (by repeat (first | with_reducible assumption | with_reducible apply Box.set10 | with_reducible apply Box.set20 | with_reducible apply Box.set21 | with_reducible apply Box.set40 | with_reducible apply Box.set41 | with_reducible apply Box.set42 | with_reducible apply Box.set43 | with_reducible apply Box.set50 | with_reducible apply Box.set51 | with_reducible apply Box.set52 | with_reducible apply Box.set53 | with_reducible apply Box.set54 | with_reducible apply Box.drew | (with_reducible apply Box.newAt; (try simp only [World.size_alloc, World.size_setCell, World.size_drew]); done) | with_reducible apply Box.alloc | (with_reducible apply Box.other; case hne => ((try simp only [World.size_alloc, World.size_setCell, World.size_drew]); omega))))
  have hk' : Kept w.heap.size w w3 := Kept.step (by repeat (first | with_reducible exact hk | with_reducible exact Kept.refl _ | with_reducible refine Kept.alloc ?_ _ | with_reducible refine Kept.drew ?_ | with_reducible refine Kept.setCell ?_ (by simp only [World.size_alloc, World.size_setCell, World.size_drew]; omega) _)) hb
  clear hk hb
  clear X1 X1l1 X1l2 X1l3 X1f X10 X11
  clear X2 X2l1 X2l2 X2l3 X2f X20 X21
  clear X3 X3l1 X3l2 X3l3 X3f X30 X31
  have X1 := X1'
  clear X1'
  have X2 := X2'
  clear X2'
  have hk := hk'
  clear hk'
  have hz_w3 := hk.size
  have X1l := X1.lt
  have X1f := X1.free
  have X1l1 : w.heap.size < w3.heap.size + 1 := by omega
  have X1l2 : w.heap.size < w3.heap.size + 1 + 1 := by omega
  have X1l3 : w.heap.size < w3.heap.size + 1 + 1 + 1 := by omega
  have X10 := X1.cell 0 _ rfl
  have X11 := X1.cell 1 _ rfl
  have X2l := X2.lt
  have X2f := X2.free
  have X2l1 : w.heap.size + 1 < w3.heap.size + 1 := by omega
  have X2l2 : w.heap.size + 1 < w3.heap.size + 1 + 1 := by omega
  have X2l3 : w.heap.size + 1 < w3.heap.size + 1 + 1 + 1 := by omega
  have X20 := X2.cell 0 _ rfl
  have X21 := X2.cell 1 _ rfl
  go_upto_region 6 with fail
  refine wp_region_p 13 (fun W' => Kept w.heap.size w W' ∧ w3.heap.size + 1 ≤ W'.heap.size ∧ Box W' (w.heap.size) #[.int .u64 (limb 1 R), .int .u64 (limb 0 R)] ∧ Box W' (w.heap.size + 1) #[.int .u64 (limb 1 D), .int .u64 (limb 0 D)] ∧ Box W' (w3.heap.size) #[.int .u64 (limb 1 (farN R D ((n % 3000).toNat + (m % 3000).toNat))), .int .u64 (limb 0 (farN R D ((n % 3000).toNat + (m % 3000).toNat)))]) (fun W' => Kept w.heap.size w W' ∧ w3.heap.size + 1 ≤ W'.heap.size ∧ Box W' (w.heap.size) #[.int .u64 (limb 1 R), .int .u64 (limb 0 R)] ∧ Box W' (w.heap.size + 1) #[.int .u64 (limb 1 D), .int .u64 (limb 0 D)] ∧ Box W' (w3.heap.size) #[.int .u64 (limb 1 (farN R D ((n % 3000).toNat + (m % 3000).toNat))), .int .u64 (limb 0 (farN R D ((n % 3000).toNat + (m % 3000).toNat)))]) 1000 (w3.heap.size + 1) [.known (bitsV R), .known (.int .i64 (n % 3000)), .known (.int .i64 (m % 3000)), .known (.int .i64 (n % 3000 + m % 3000)), .known (bitsV D), .known (.tuple #[bitsV (farN R D ((n % 3000).toNat + (m % 3000).toNat)), .bool (oddF R D ((n % 3000).toNat + (m % 3000).toNat)), .bool true]), .known (.tuple #[bitsV (farN R D ((n % 3000).toNat + (m % 3000).toNat)), .bool (oddF R D ((n % 3000).toNat + (m % 3000).toNat)), .bool true]), .known (bitsV (farN R D ((n % 3000).toNat + (m % 3000).toNat))), .known (.bool (oddF R D ((n % 3000).toNat + (m % 3000).toNat))), .known (.bool true), .var #[.int .u64 0, .int .u64 0] 11 [.int .u64 (limb 1 (farN R D ((n % 3000).toNat + (m % 3000).toNat))), .int .u64 (limb 0 (farN R D ((n % 3000).toNat + (m % 3000).toNat)))], .put 10, .known (.bool (oddF R D ((n % 3000).toNat + (m % 3000).toNat)))] (by kernel_rfl) (by kernel_rfl) (fun W W' h hb => ⟨h.1.step hb, Nat.le_trans (h.2.1) hb.size, Box.call hb (h.2.2.1), Box.call hb (h.2.2.2.1), Box.call hb (h.2.2.2.2)⟩) (fun W W' h hb => ⟨h.1.step hb, Nat.le_trans (h.2.1) hb.size, Box.call hb (h.2.2.1), Box.call hb (h.2.2.2.1), Box.call hb (h.2.2.2.2)⟩) (no_out (of_decide_eq_true (by kernel_rfl))) (.inr (fun W' b i v hb h => ⟨h.1.setCell (p := ⟨b, i, none⟩) (by simp only []; omega) v, (by rw [World.size_setCell]; exact h.2.1), (h.2.2.1).other (by omega), (h.2.2.2.1).other (by omega), (h.2.2.2.2).other (by omega)⟩)) (.inr (fun W' b i v hb h => ⟨h.1.setCell (p := ⟨b, i, none⟩) (by simp only []; omega) v, (by rw [World.size_setCell]; exact h.2.1), (h.2.2.1).other (by omega), (h.2.2.2.1).other (by omega), (h.2.2.2.2).other (by omega)⟩)) (fun _ h => h.2.1) (fun _ h => h.2.1) (⟨(by repeat (first | with_reducible exact hk | with_reducible exact Kept.refl _ | with_reducible refine Kept.alloc ?_ _ | with_reducible refine Kept.drew ?_ | with_reducible refine Kept.setCell ?_ (by simp only [World.size_alloc, World.size_setCell, World.size_drew]; omega) _)), (by (try simp only [World.size_alloc, World.size_setCell, World.size_drew]); omega), (by repeat (first | with_reducible assumption | with_reducible apply Box.set10 | with_reducible apply Box.set20 | with_reducible apply Box.set21 | with_reducible apply Box.set40 | with_reducible apply Box.set41 | with_reducible apply Box.set42 | with_reducible apply Box.set43 | with_reducible apply Box.set50 | with_reducible apply Box.set51 | with_reducible apply Box.set52 | with_reducible apply Box.set53 | with_reducible apply Box.set54 | with_reducible apply Box.drew | (with_reducible apply Box.newAt; (try simp only [World.size_alloc, World.size_setCell, World.size_drew]); done) | with_reducible apply Box.alloc | (with_reducible apply Box.other; case hne => ((try simp only [World.size_alloc, World.size_setCell, World.size_drew]); omega)))), (by repeat (first | with_reducible assumption | with_reducible apply Box.set10 | with_reducible apply Box.set20 | with_reducible apply Box.set21 | with_reducible apply Box.set40 | with_reducible apply Box.set41 | with_reducible apply Box.set42 | with_reducible apply Box.set43 | with_reducible apply Box.set50 | with_reducible apply Box.set51 | with_reducible apply Box.set52 | with_reducible apply Box.set53 | with_reducible apply Box.set54 | with_reducible apply Box.drew | (with_reducible apply Box.newAt; (try simp only [World.size_alloc, World.size_setCell, World.size_drew]); done) | with_reducible apply Box.alloc | (with_reducible apply Box.other; case hne => ((try simp only [World.size_alloc, World.size_setCell, World.size_drew]); omega)))), (by repeat (first | with_reducible assumption | with_reducible apply Box.set10 | with_reducible apply Box.set20 | with_reducible apply Box.set21 | with_reducible apply Box.set40 | with_reducible apply Box.set41 | with_reducible apply Box.set42 | with_reducible apply Box.set43 | with_reducible apply Box.set50 | with_reducible apply Box.set51 | with_reducible apply Box.set52 | with_reducible apply Box.set53 | with_reducible apply Box.set54 | with_reducible apply Box.drew | (with_reducible apply Box.newAt; (try simp only [World.size_alloc, World.size_setCell, World.size_drew]); done) | with_reducible apply Box.alloc | (with_reducible apply Box.other; case hne => ((try simp only [World.size_alloc, World.size_setCell, World.size_drew]); omega))))⟩) ?_
  clear hk
  clear X1 X1l1 X1l2 X1l3 X1f X10 X11
  clear X2 X2l1 X2l2 X2l3 X2f X20 X21
  intro ρ
  simp only [List.take_succ_cons, List.take_zero, List.drop_succ_cons, List.drop_zero]
  refine ⟨?_, ?_⟩
  · as_aux_lemma =>
    intro y_ hS_ hD
    have hS := hS_ (by rfl)
    have Q := (hS.2.2.1).cell
    have q0 := Q 0 _ rfl
    have q1 := Q 1 _ rfl
    clear Q hS hS_ hD
    refine s_gen (V := bitsV R) [.pointer (some ⟨w.heap.size, 0, none⟩)] (by kernel_rfl) (by kernel_rfl) (by kernel_rfl) ?_
    intro r_ hr_
    have o0_ : r_ (.tmp 4) = .pointer (some ⟨w.heap.size, 0, none⟩) := op_at hr_ 0 (by kernel_rfl) (by kernel_rfl)
    clear hr_
    go_simp; first | done | with_reducible rfl
  simp only [Act.put, planVG, List.setIfInBounds_toArray, List.set_cons_zero, List.set_cons_succ, List.getElem?_cons_zero, List.getElem?_cons_succ]
  refine ⟨?_, ?_⟩
  · as_aux_lemma =>
    intro y_ hS_ hD
    clear hS_ hD
    refine s_gen (V := .int .i64 (n % 3000)) [.int .i64 (n % 3000)] (by kernel_rfl) (by kernel_rfl) (by kernel_rfl) ?_
    intro r_ hr_
    have o0_ : r_ (.tmp 9) = .int .i64 (n % 3000) := op_at hr_ 0 (by kernel_rfl) (by kernel_rfl)
    clear hr_
    go_simp; first | done | with_reducible rfl
  simp only [Act.put, planVG, List.setIfInBounds_toArray, List.set_cons_zero, List.set_cons_succ, List.getElem?_cons_zero, List.getElem?_cons_succ]
  refine ⟨?_, ?_⟩
  · as_aux_lemma =>
    intro y_ hS_ hD
    clear hS_ hD
    refine s_gen (V := .int .i64 (m % 3000)) [.int .i64 (m % 3000)] (by kernel_rfl) (by kernel_rfl) (by kernel_rfl) ?_
    intro r_ hr_
    have o0_ : r_ (.tmp 10) = .int .i64 (m % 3000) := op_at hr_ 0 (by kernel_rfl) (by kernel_rfl)
    clear hr_
    go_simp; first | done | with_reducible rfl
  simp only [Act.put, planVG, List.setIfInBounds_toArray, List.set_cons_zero, List.set_cons_succ, List.getElem?_cons_zero, List.getElem?_cons_succ]
  refine ⟨?_, ?_⟩
  · as_aux_lemma =>
    intro y_ hS_ hD
    clear hS_ hD
    refine s_gen (V := .int .i64 (n % 3000 + m % 3000)) [.int .i64 (n % 3000), .int .i64 (m % 3000)] (by kernel_rfl) (by kernel_rfl) (by kernel_rfl) ?_
    intro r_ hr_
    have o0_ : r_ (.tmp 59) = .int .i64 (n % 3000) := op_at hr_ 0 (by kernel_rfl) (by kernel_rfl)
    have o1_ : r_ (.tmp 60) = .int .i64 (m % 3000) := op_at hr_ 1 (by kernel_rfl) (by kernel_rfl)
    clear hr_
    go_simp; first | done | with_reducible rfl
  simp only [Act.put, planVG, List.setIfInBounds_toArray, List.set_cons_zero, List.set_cons_succ, List.getElem?_cons_zero, List.getElem?_cons_succ]
  refine ⟨?_, ?_⟩
  · as_aux_lemma =>
    intro y_ hS_ hD
    have hS := hS_ (by rfl)
    have Q := (hS.2.2.2.1).cell
    have q0 := Q 0 _ rfl
    have q1 := Q 1 _ rfl
    clear Q hS hS_ hD
    refine s_gen (V := bitsV D) [.pointer (some ⟨w.heap.size + 1, 0, none⟩)] (by kernel_rfl) (by kernel_rfl) (by kernel_rfl) ?_
    intro r_ hr_
    have o0_ : r_ (.tmp 7) = .pointer (some ⟨w.heap.size + 1, 0, none⟩) := op_at hr_ 0 (by kernel_rfl) (by kernel_rfl)
    clear hr_
    go_simp; first | done | with_reducible rfl
  simp only [Act.put, planVG, List.setIfInBounds_toArray, List.set_cons_zero, List.set_cons_succ, List.getElem?_cons_zero, List.getElem?_cons_succ]
  refine ⟨?_, ?_⟩
  · as_aux_lemma =>
    intro y_ hS_ hD
    try clear hS
    clear hS_ hD
    refine s_gcall (V := .tuple #[bitsV (farN R D ((n % 3000).toNat + (m % 3000).toNat)), .bool (oddF R D ((n % 3000).toNat + (m % 3000).toNat)), .bool true]) [.func (.func 38) #[] #[], bitsV R, .int .i64 (n % 3000 + m % 3000), bitsV D] ?_ ?_ (by kernel_rfl) (by kernel_rfl) (by kernel_rfl) ?_ ?_
    rotate_left 2
    · intro r_ hr_
      have o0_ : r_ (.func 38) = .func (.func 38) #[] #[] := op_at hr_ 0 (by kernel_rfl) (by kernel_rfl)
      have o1_ : r_ (.tmp 58) = bitsV R := op_at hr_ 1 (by kernel_rfl) (by kernel_rfl)
      have o2_ : r_ (.tmp 61) = .int .i64 (n % 3000 + m % 3000) := op_at hr_ 2 (by kernel_rfl) (by kernel_rfl)
      have o3_ : r_ (.tmp 62) = bitsV D := op_at hr_ 3 (by kernel_rfl) (by kernel_rfl)
      clear hr_
      go_simp; first | done | with_reducible rfl | (constructor <;> with_reducible rfl)
    · refine Mod_at (IsBits.of hR) (IsBits.of hD) h ((n % 3000).toNat + (m % 3000).toNat) (z := n % 3000 + m % 3000) (by omega) (by omega) _
  simp only [Act.put, planVG, List.setIfInBounds_toArray, List.set_cons_zero, List.set_cons_succ, List.getElem?_cons_zero, List.getElem?_cons_succ]
  refine ⟨?_, ?_⟩
  · as_aux_lemma =>
    intro y_ hS_ hD
    clear hS_ hD
    refine s_gen (V := .tuple #[bitsV (farN R D ((n % 3000).toNat + (m % 3000).toNat)), .bool (oddF R D ((n % 3000).toNat + (m % 3000).toNat)), .bool true]) [.tuple #[bitsV (farN R D ((n % 3000).toNat + (m % 3000).toNat)), .bool (oddF R D ((n % 3000).toNat + (m % 3000).toNat)), .bool true]] (by kernel_rfl) (by kernel_rfl) (by kernel_rfl) ?_
    intro r_ hr_
    have o0_ : r_ (.tmp 63) = .tuple #[bitsV (farN R D ((n % 3000).toNat + (m % 3000).toNat)), .bool (oddF R D ((n % 3000).toNat + (m % 3000).toNat)), .bool true] := op_at hr_ 0 (by kernel_rfl) (by kernel_rfl)
    clear hr_
    go_simp; first | done | with_reducible rfl
  simp only [Act.put, planVG, List.setIfInBounds_toArray, List.set_cons_zero, List.set_cons_succ, List.getElem?_cons_zero, List.getElem?_cons_succ]
  refine ⟨?_, ?_⟩
  · as_aux_lemma =>
    intro y_ hS_ hD
    clear hS_ hD
    refine s_gen (V := bitsV (farN R D ((n % 3000).toNat + (m % 3000).toNat))) [.tuple #[bitsV (farN R D ((n % 3000).toNat + (m % 3000).toNat)), .bool (oddF R D ((n % 3000).toNat + (m % 3000).toNat)), .bool true]] (by kernel_rfl) (by kernel_rfl) (by kernel_rfl) ?_
    intro r_ hr_
    have o0_ : r_ (.tmp 57) = .tuple #[bitsV (farN R D ((n % 3000).toNat + (m % 3000).toNat)), .bool (oddF R D ((n % 3000).toNat + (m % 3000).toNat)), .bool true] := op_at hr_ 0 (by kernel_rfl) (by kernel_rfl)
    clear hr_
    go_simp; first | done | with_reducible rfl
  simp only [Act.put, planVG, List.setIfInBounds_toArray, List.set_cons_zero, List.set_cons_succ, List.getElem?_cons_zero, List.getElem?_cons_succ]
  refine ⟨?_, ?_⟩
  · as_aux_lemma =>
    intro y_ hS_ hD
    clear hS_ hD
    refine s_gen (V := .bool (oddF R D ((n % 3000).toNat + (m % 3000).toNat))) [.tuple #[bitsV (farN R D ((n % 3000).toNat + (m % 3000).toNat)), .bool (oddF R D ((n % 3000).toNat + (m % 3000).toNat)), .bool true]] (by kernel_rfl) (by kernel_rfl) (by kernel_rfl) ?_
    intro r_ hr_
    have o0_ : r_ (.tmp 57) = .tuple #[bitsV (farN R D ((n % 3000).toNat + (m % 3000).toNat)), .bool (oddF R D ((n % 3000).toNat + (m % 3000).toNat)), .bool true] := op_at hr_ 0 (by kernel_rfl) (by kernel_rfl)
    clear hr_
    go_simp; first | done | with_reducible rfl
  simp only [Act.put, planVG, List.setIfInBounds_toArray, List.set_cons_zero, List.set_cons_succ, List.getElem?_cons_zero, List.getElem?_cons_succ]
  refine ⟨?_, ?_⟩
  · as_aux_lemma =>
    intro y_ hS_ hD
    clear hS_ hD
    refine s_gen (V := .bool true) [.tuple #[bitsV (farN R D ((n % 3000).toNat + (m % 3000).toNat)), .bool (oddF R D ((n % 3000).toNat + (m % 3000).toNat)), .bool true]] (by kernel_rfl) (by kernel_rfl) (by kernel_rfl) ?_
    intro r_ hr_
    have o0_ : r_ (.tmp 57) = .tuple #[bitsV (farN R D ((n % 3000).toNat + (m % 3000).toNat)), .bool (oddF R D ((n % 3000).toNat + (m % 3000).toNat)), .bool true] := op_at hr_ 0 (by kernel_rfl) (by kernel_rfl)
    clear hr_
    go_simp; first | done | with_reducible rfl
  simp only [Act.put, planVG, List.setIfInBounds_toArray, List.set_cons_zero, List.set_cons_succ, List.getElem?_cons_zero, List.getElem?_cons_succ]
  refine ⟨?_, ?_⟩
  · as_aux_lemma =>
    intro y_ hS_ hD
    clear hS_ hD
    refine s_alloc (by rfl) (by rfl) ?_
    simp only [allocTy]
    go_simp; first | done | with_reducible rfl | rfl
  simp only [Act.put, planVG, List.setIfInBounds_toArray, List.set_cons_zero, List.set_cons_succ, List.getElem?_cons_zero, List.getElem?_cons_succ]
  refine ⟨?_, ?_⟩
  · as_aux_lemma =>
    intro y_ hS_ hD
    have hS := hS_ (by rfl)
    clear hS hS_ hD
    refine s_gput (j := 10) (Z := #[.int .u64 0, .int .u64 0]) (V := [.int .u64 (limb 1 (farN R D ((n % 3000).toNat + (m % 3000).toNat))), .int .u64 (limb 0 (farN R D ((n % 3000).toNat + (m % 3000).toNat)))]) [ρ 10, bitsV (farN R D ((n % 3000).toNat + (m % 3000).toNat))] (by kernel_rfl) (by kernel_rfl) (by kernel_rfl) (by kernel_rfl) ?_
    intro r_ b hr_ hb hB F
    have o0_ : r_ (.tmp 17) = ρ 10 := op_at hr_ 0 (by kernel_rfl) (by kernel_rfl)
    have o1_ : r_ (.tmp 64) = bitsV (farN R D ((n % 3000).toNat + (m % 3000).toNat)) := op_at hr_ 1 (by kernel_rfl) (by kernel_rfl)
    clear hr_
    rw [hb] at o0_
    have Q := F.cell
    have q0 := Q 0 _ rfl
    have q1 := Q 1 _ rfl
    have Qf := F.free
    have Ql := F.lt
    clear Q F
    simp only [putCells]
    go_simp; first | done | with_reducible rfl | rfl
  simp only [Act.put, planVG, List.setIfInBounds_toArray, List.set_cons_zero, List.set_cons_succ, List.getElem?_cons_zero, List.getElem?_cons_succ]
  refine ⟨?_, ?_⟩
  · as_aux_lemma =>
    intro y_ hS_ hD
    clear hS_ hD
    refine s_gen (V := .bool (oddF R D ((n % 3000).toNat + (m % 3000).toNat))) [.bool (oddF R D ((n % 3000).toNat + (m % 3000).toNat))] (by kernel_rfl) (by kernel_rfl) (by kernel_rfl) ?_
    intro r_ hr_
    have o0_ : r_ (.tmp 65) = .bool (oddF R D ((n % 3000).toNat + (m % 3000).toNat)) := op_at hr_ 0 (by kernel_rfl) (by kernel_rfl)
    clear hr_
    go_simp; first | done | with_reducible rfl
  simp only [Act.put, planVG, List.setIfInBounds_toArray, List.set_cons_zero, List.set_cons_succ, List.getElem?_cons_zero, List.getElem?_cons_succ]
  as_aux_lemma =>
    intro w4 hS hF hD_
    change wpList _ _ _ _ _ _
    replace hS := sg_no (by decide) hS
    obtain ⟨hk, hZ4, X1, X2, X4⟩ := hS
    obtain ⟨v6_10, e_v6_10, hv6_10, Bv6_10⟩ : ∃ b, ρ 10 = .pointer (some ⟨b, 0, none⟩) ∧ w3.heap.size + 1 ≤ b ∧ Box w4 b #[.int .u64 (limb 1 (farN R D ((n % 3000).toNat + (m % 3000).toNat))), .int .u64 (limb 0 (farN R D ((n % 3000).toNat + (m % 3000).toNat)))] := by
      obtain ⟨b, h1, h2, h3⟩ := hF 10 (by decide)
      exact ⟨b, h1, h2, h3.lt, h3.cell, h3.free⟩
    clear hF hD_
    simp only [e_v6_10]
    clear e_v6_10
    clear ρ
    have hz_w4 := hk.size
    have X1l := X1.lt
    have X1f := X1.free
    have X1l1 : w.heap.size < w4.heap.size + 1 := by omega
    have X1l2 : w.heap.size < w4.heap.size + 1 + 1 := by omega
    have X1l3 : w.heap.size < w4.heap.size + 1 + 1 + 1 := by omega
    have X10 := X1.cell 0 _ rfl
    have X11 := X1.cell 1 _ rfl
    have X2l := X2.lt
    have X2f := X2.free
    have X2l1 : w.heap.size + 1 < w4.heap.size + 1 := by omega
    have X2l2 : w.heap.size + 1 < w4.heap.size + 1 + 1 := by omega
    have X2l3 : w.heap.size + 1 < w4.heap.size + 1 + 1 + 1 := by omega
    have X20 := X2.cell 0 _ rfl
    have X21 := X2.cell 1 _ rfl
    have X4l := X4.lt
    have X4f := X4.free
    have X4l1 : w3.heap.size < w4.heap.size + 1 := by omega
    have X4l2 : w3.heap.size < w4.heap.size + 1 + 1 := by omega
    have X4l3 : w3.heap.size < w4.heap.size + 1 + 1 + 1 := by omega
    have X40 := X4.cell 0 _ rfl
    have X41 := X4.cell 1 _ rfl
    have Bv6_10l := Bv6_10.lt
    have Bv6_10f := Bv6_10.free
    have Bv6_10l1 : v6_10 < w4.heap.size + 1 := by omega
    have Bv6_10l2 : v6_10 < w4.heap.size + 1 + 1 := by omega
    have Bv6_10l3 : v6_10 < w4.heap.size + 1 + 1 + 1 := by omega
    have Bv6_100 := Bv6_10.cell 0 _ rfl
    have Bv6_101 := Bv6_10.cell 1 _ rfl
    go_wp2
    refine wp_region_g 14 (fun W' => Kept w.heap.size w W' ∧ w4.heap.size ≤ W'.heap.size ∧ Box W' (w.heap.size) #[.int .u64 (limb 1 R), .int .u64 (limb 0 R)] ∧ Box W' (w.heap.size + 1) #[.int .u64 (limb 1 D), .int .u64 (limb 0 D)]) (fun W' => Kept w.heap.size w W' ∧ w4.heap.size ≤ W'.heap.size ∧ Box W' (w.heap.size) #[.int .u64 (limb 1 R), .int .u64 (limb 0 R)] ∧ Box W' (w.heap.size + 1) #[.int .u64 (limb 1 D), .int .u64 (limb 0 D)]) 1000 (w4.heap.size) [.known (bitsV R), .known (wideV R), .known (.int .i64 (n % 3000)), .known (wideV (left256 R (n % 3000))), .known (bitsV D), .known (.tuple #[wideV (divN (left256 R (n % 3000)) D), bitsV (farN R D (n % 3000).toNat), .bool true]), .known (.tuple #[wideV (divN (left256 R (n % 3000)) D), bitsV (farN R D (n % 3000).toNat), .bool true]), .known (wideV (divN (left256 R (n % 3000)) D)), .known (bitsV (farN R D (n % 3000).toNat)), .known (.bool true), .var #[.int .u64 0, .int .u64 0, .int .u64 0, .int .u64 0] 12 [.int .u64 (limb 0 (divN (left256 R (n % 3000)) D)), .int .u64 (limb 1 (divN (left256 R (n % 3000)) D)), .int .u64 (limb 2 (divN (left256 R (n % 3000)) D)), .int .u64 (limb 3 (divN (left256 R (n % 3000)) D))], .var #[.int .u64 0, .int .u64 0] 13 [.int .u64 (limb 1 (farN R D (n % 3000).toNat)), .int .u64 (limb 0 (farN R D (n % 3000).toNat))], .put 10, .put 11] (by kernel_rfl) (by kernel_rfl) (fun W W' h hb => ⟨h.1.step hb, Nat.le_trans (h.2.1) hb.size, Box.call hb (h.2.2.1), Box.call hb (h.2.2.2)⟩) (fun W W' h hb => ⟨h.1.step hb, Nat.le_trans (h.2.1) hb.size, Box.call hb (h.2.2.1), Box.call hb (h.2.2.2)⟩) (no_out (of_decide_eq_true (by kernel_rfl))) (.inr (fun W' b i v hb h => ⟨h.1.setCell (p := ⟨b, i, none⟩) (by simp only []; omega) v, (by rw [World.size_setCell]; exact h.2.1), (h.2.2.1).other (by omega), (h.2.2.2).other (by omega)⟩)) (.inr (fun W' b i v hb h => ⟨h.1.setCell (p := ⟨b, i, none⟩) (by simp only []; omega) v, (by rw [World.size_setCell]; exact h.2.1), (h.2.2.1).other (by omega), (h.2.2.2).other (by omega)⟩)) (fun _ h => h.2.1) (fun _ h => h.2.1) (⟨(by repeat (first | with_reducible exact hk | with_reducible exact Kept.refl _ | with_reducible refine Kept.alloc ?_ _ | with_reducible refine Kept.drew ?_ | with_reducible refine Kept.setCell ?_ (by simp only [World.size_alloc, World.size_setCell, World.size_drew]; omega) _)), (by (try simp only [World.size_alloc, World.size_setCell, World.size_drew]); omega), (by repeat (first | with_reducible assumption | with_reducible apply Box.set10 | with_reducible apply Box.set20 | with_reducible apply Box.set21 | with_reducible apply Box.set40 | with_reducible apply Box.set41 | with_reducible apply Box.set42 | with_reducible apply Box.set43 | with_reducible apply Box.set50 | with_reducible apply Box.set51 | with_reducible apply Box.set52 | with_reducible apply Box.set53 | with_reducible apply Box.set54 | with_reducible apply Box.drew | (with_reducible apply Box.newAt; (try simp only [World.size_alloc, World.size_setCell, World.size_drew]); done) | with_reducible apply Box.alloc | (with_reducible apply Box.other; case hne => ((try simp only [World.size_alloc, World.size_setCell, World.size_drew]); omega)))), (by repeat (first | with_reducible assumption | with_reducible apply Box.set10 | with_reducible apply Box.set20 | with_reducible apply Box.set21 | with_reducible apply Box.set40 | with_reducible apply Box.set41 | with_reducible apply Box.set42 | with_reducible apply Box.set43 | with_reducible apply Box.set50 | with_reducible apply Box.set51 | with_reducible apply Box.set52 | with_reducible apply Box.set53 | with_reducible apply Box.set54 | with_reducible apply Box.drew | (with_reducible apply Box.newAt; (try simp only [World.size_alloc, World.size_setCell, World.size_drew]); done) | with_reducible apply Box.alloc | (with_reducible apply Box.other; case hne => ((try simp only [World.size_alloc, World.size_setCell, World.size_drew]); omega))))⟩) ?_
    clear hk
    clear X1 X1l1 X1l2 X1l3 X1f X10 X11
    clear X2 X2l1 X2l2 X2l3 X2f X20 X21
    clear X4 X4l1 X4l2 X4l3 X4f X40 X41
    clear Bv6_10 Bv6_10l1 Bv6_10l2 Bv6_10l3 Bv6_10f Bv6_100 Bv6_101
    intro ρ
    simp only [List.take_succ_cons, List.take_zero, List.drop_succ_cons, List.drop_zero]
    refine ⟨?_, ?_⟩
    · as_aux_lemma =>
      intro y_ hS_ hD
      have hS := hS_ (by rfl)
      have Q := (hS.2.2.1).cell
      have q0 := Q 0 _ rfl
      have q1 := Q 1 _ rfl
      clear Q hS hS_ hD
      refine s_gen (V := bitsV R) [.pointer (some ⟨w.heap.size, 0, none⟩)] (by kernel_rfl) (by kernel_rfl) (by kernel_rfl) ?_
      intro r_ hr_
      have o0_ : r_ (.tmp 4) = .pointer (some ⟨w.heap.size, 0, none⟩) := op_at hr_ 0 (by kernel_rfl) (by kernel_rfl)
      clear hr_
      go_simp; first | done | with_reducible rfl
    simp only [Act.put, planVG, List.setIfInBounds_toArray, List.set_cons_zero, List.set_cons_succ, List.getElem?_cons_zero, List.getElem?_cons_succ]
    refine ⟨?_, ?_⟩
    · as_aux_lemma =>
      intro y_ hS_ hD
      try clear hS
      clear hS_ hD
      refine s_gcall (V := wideV R) [.func (.func 44) #[] #[], bitsV R] ?_ ?_ (by kernel_rfl) (by kernel_rfl) (by kernel_rfl) ?_ ?_
      rotate_left 2
      · intro r_ hr_
        have o0_ : r_ (.func 44) = .func (.func 44) #[] #[] := op_at hr_ 0 (by kernel_rfl) (by kernel_rfl)
        have o1_ : r_ (.tmp 95) = bitsV R := op_at hr_ 1 (by kernel_rfl) (by kernel_rfl)
        clear hr_
        go_simp; first | done | with_reducible rfl | (constructor <;> with_reducible rfl)
      · refine Of_at (IsBits.of hR) _
    simp only [Act.put, planVG, List.setIfInBounds_toArray, List.set_cons_zero, List.set_cons_succ, List.getElem?_cons_zero, List.getElem?_cons_succ]
    refine ⟨?_, ?_⟩
    · as_aux_lemma =>
      intro y_ hS_ hD
      clear hS_ hD
      refine s_gen (V := .int .i64 (n % 3000)) [.int .i64 (n % 3000)] (by kernel_rfl) (by kernel_rfl) (by kernel_rfl) ?_
      intro r_ hr_
      have o0_ : r_ (.tmp 9) = .int .i64 (n % 3000) := op_at hr_ 0 (by kernel_rfl) (by kernel_rfl)
      clear hr_
      go_simp; first | done | with_reducible rfl
    simp only [Act.put, planVG, List.setIfInBounds_toArray, List.set_cons_zero, List.set_cons_succ, List.getElem?_cons_zero, List.getElem?_cons_succ]
    refine ⟨?_, ?_⟩
    · as_aux_lemma =>
      intro y_ hS_ hD
      try clear hS
      clear hS_ hD
      refine s_gcall (V := wideV (left256 R (n % 3000))) [.func (.func 43) #[] #[], wideV R, .int .i64 (n % 3000)] ?_ ?_ (by kernel_rfl) (by kernel_rfl) (by kernel_rfl) ?_ ?_
      rotate_left 2
      · intro r_ hr_
        have o0_ : r_ (.func 43) = .func (.func 43) #[] #[] := op_at hr_ 0 (by kernel_rfl) (by kernel_rfl)
        have o1_ : r_ (.tmp 96) = wideV R := op_at hr_ 1 (by kernel_rfl) (by kernel_rfl)
        have o2_ : r_ (.tmp 97) = .int .i64 (n % 3000) := op_at hr_ 2 (by kernel_rfl) (by kernel_rfl)
        clear hr_
        go_simp; first | done | with_reducible rfl | (constructor <;> with_reducible rfl)
      · refine WideLeft_at (IsWide.of (w128_256 (IsBits.of hR).w)) (n % 3000) (by omega) (by omega) _
    simp only [Act.put, planVG, List.setIfInBounds_toArray, List.set_cons_zero, List.set_cons_succ, List.getElem?_cons_zero, List.getElem?_cons_succ]
    refine ⟨?_, ?_⟩
    · as_aux_lemma =>
      intro y_ hS_ hD
      have hS := hS_ (by rfl)
      have Q := (hS.2.2.2).cell
      have q0 := Q 0 _ rfl
      have q1 := Q 1 _ rfl
      clear Q hS hS_ hD
      refine s_gen (V := bitsV D) [.pointer (some ⟨w.heap.size + 1, 0, none⟩)] (by kernel_rfl) (by kernel_rfl) (by kernel_rfl) ?_
      intro r_ hr_
      have o0_ : r_ (.tmp 7) = .pointer (some ⟨w.heap.size + 1, 0, none⟩) := op_at hr_ 0 (by kernel_rfl) (by kernel_rfl)
      clear hr_
      go_simp; first | done | with_reducible rfl
    simp only [Act.put, planVG, List.setIfInBounds_toArray, List.set_cons_zero, List.set_cons_succ, List.getElem?_cons_zero, List.getElem?_cons_succ]
    refine ⟨?_, ?_⟩
    · as_aux_lemma =>
      intro y_ hS_ hD
      try clear hS
      clear hS_ hD
      refine s_gcall (V := .tuple #[wideV (divN (left256 R (n % 3000)) D), bitsV (farN R D (n % 3000).toNat), .bool true]) [.func (.func 34) #[] #[], wideV (left256 R (n % 3000)), bitsV D] ?_ ?_ (by kernel_rfl) (by kernel_rfl) (by kernel_rfl) ?_ ?_
      rotate_left 2
      · intro r_ hr_
        have o0_ : r_ (.func 34) = .func (.func 34) #[] #[] := op_at hr_ 0 (by kernel_rfl) (by kernel_rfl)
        have o1_ : r_ (.tmp 98) = wideV (left256 R (n % 3000)) := op_at hr_ 1 (by kernel_rfl) (by kernel_rfl)
        have o2_ : r_ (.tmp 99) = bitsV D := op_at hr_ 2 (by kernel_rfl) (by kernel_rfl)
        clear hr_
        go_simp; first | done | with_reducible rfl | (constructor <;> with_reducible rfl)
      · refine calls_to (V := .tuple #[wideV (divN (left256 R (n % 3000)) D), bitsV (farN R D (n % 3000).toNat), .bool true]) (Div_at (IsWide.of (left_w _ _)) (IsBits.of hD) HP _) (by rw [EL.out])
    simp only [Act.put, planVG, List.setIfInBounds_toArray, List.set_cons_zero, List.set_cons_succ, List.getElem?_cons_zero, List.getElem?_cons_succ]
    refine ⟨?_, ?_⟩
    · as_aux_lemma =>
      intro y_ hS_ hD
      clear hS_ hD
      refine s_gen (V := .tuple #[wideV (divN (left256 R (n % 3000)) D), bitsV (farN R D (n % 3000).toNat), .bool true]) [.tuple #[wideV (divN (left256 R (n % 3000)) D), bitsV (farN R D (n % 3000).toNat), .bool true]] (by kernel_rfl) (by kernel_rfl) (by kernel_rfl) ?_
      intro r_ hr_
      have o0_ : r_ (.tmp 100) = .tuple #[wideV (divN (left256 R (n % 3000)) D), bitsV (farN R D (n % 3000).toNat), .bool true] := op_at hr_ 0 (by kernel_rfl) (by kernel_rfl)
      clear hr_
      go_simp; first | done | with_reducible rfl
    simp only [Act.put, planVG, List.setIfInBounds_toArray, List.set_cons_zero, List.set_cons_succ, List.getElem?_cons_zero, List.getElem?_cons_succ]
    refine ⟨?_, ?_⟩
    · as_aux_lemma =>
      intro y_ hS_ hD
      clear hS_ hD
      refine s_gen (V := wideV (divN (left256 R (n % 3000)) D)) [.tuple #[wideV (divN (left256 R (n % 3000)) D), bitsV (farN R D (n % 3000).toNat), .bool true]] (by kernel_rfl) (by kernel_rfl) (by kernel_rfl) ?_
      intro r_ hr_
      have o0_ : r_ (.tmp 94) = .tuple #[wideV (divN (left256 R (n % 3000)) D), bitsV (farN R D (n % 3000).toNat), .bool true] := op_at hr_ 0 (by kernel_rfl) (by kernel_rfl)
      clear hr_
      go_simp; first | done | with_reducible rfl
    simp only [Act.put, planVG, List.setIfInBounds_toArray, List.set_cons_zero, List.set_cons_succ, List.getElem?_cons_zero, List.getElem?_cons_succ]
    refine ⟨?_, ?_⟩
    · as_aux_lemma =>
      intro y_ hS_ hD
      clear hS_ hD
      refine s_gen (V := bitsV (farN R D (n % 3000).toNat)) [.tuple #[wideV (divN (left256 R (n % 3000)) D), bitsV (farN R D (n % 3000).toNat), .bool true]] (by kernel_rfl) (by kernel_rfl) (by kernel_rfl) ?_
      intro r_ hr_
      have o0_ : r_ (.tmp 94) = .tuple #[wideV (divN (left256 R (n % 3000)) D), bitsV (farN R D (n % 3000).toNat), .bool true] := op_at hr_ 0 (by kernel_rfl) (by kernel_rfl)
      clear hr_
      go_simp; first | done | with_reducible rfl
    simp only [Act.put, planVG, List.setIfInBounds_toArray, List.set_cons_zero, List.set_cons_succ, List.getElem?_cons_zero, List.getElem?_cons_succ]
    refine ⟨?_, ?_⟩
    · as_aux_lemma =>
      intro y_ hS_ hD
      clear hS_ hD
      refine s_gen (V := .bool true) [.tuple #[wideV (divN (left256 R (n % 3000)) D), bitsV (farN R D (n % 3000).toNat), .bool true]] (by kernel_rfl) (by kernel_rfl) (by kernel_rfl) ?_
      intro r_ hr_
      have o0_ : r_ (.tmp 94) = .tuple #[wideV (divN (left256 R (n % 3000)) D), bitsV (farN R D (n % 3000).toNat), .bool true] := op_at hr_ 0 (by kernel_rfl) (by kernel_rfl)
      clear hr_
      go_simp; first | done | with_reducible rfl
    simp only [Act.put, planVG, List.setIfInBounds_toArray, List.set_cons_zero, List.set_cons_succ, List.getElem?_cons_zero, List.getElem?_cons_succ]
    refine ⟨?_, ?_⟩
    · as_aux_lemma =>
      intro y_ hS_ hD
      clear hS_ hD
      refine s_alloc (by rfl) (by rfl) ?_
      simp only [allocTy]
      go_simp; first | done | with_reducible rfl | rfl
    simp only [Act.put, planVG, List.setIfInBounds_toArray, List.set_cons_zero, List.set_cons_succ, List.getElem?_cons_zero, List.getElem?_cons_succ]
    refine ⟨?_, ?_⟩
    · as_aux_lemma =>
      intro y_ hS_ hD
      clear hS_ hD
      refine s_alloc (by rfl) (by rfl) ?_
      simp only [allocTy]
      go_simp; first | done | with_reducible rfl | rfl
    simp only [Act.put, planVG, List.setIfInBounds_toArray, List.set_cons_zero, List.set_cons_succ, List.getElem?_cons_zero, List.getElem?_cons_succ]
    refine ⟨?_, ?_⟩
    · as_aux_lemma =>
      intro y_ hS_ hD
      have hS := hS_ (by rfl)
      clear hS hS_ hD
      refine s_gput (j := 10) (Z := #[.int .u64 0, .int .u64 0, .int .u64 0, .int .u64 0]) (V := [.int .u64 (limb 0 (divN (left256 R (n % 3000)) D)), .int .u64 (limb 1 (divN (left256 R (n % 3000)) D)), .int .u64 (limb 2 (divN (left256 R (n % 3000)) D)), .int .u64 (limb 3 (divN (left256 R (n % 3000)) D))]) [ρ 10, wideV (divN (left256 R (n % 3000)) D)] (by kernel_rfl) (by kernel_rfl) (by kernel_rfl) (by kernel_rfl) ?_
      intro r_ b hr_ hb hB F
      have o0_ : r_ (.tmp 20) = ρ 10 := op_at hr_ 0 (by kernel_rfl) (by kernel_rfl)
      have o1_ : r_ (.tmp 101) = wideV (divN (left256 R (n % 3000)) D) := op_at hr_ 1 (by kernel_rfl) (by kernel_rfl)
      clear hr_
      rw [hb] at o0_
      have Q := F.cell
      have q0 := Q 0 _ rfl
      have q1 := Q 1 _ rfl
      have q2 := Q 2 _ rfl
      have q3 := Q 3 _ rfl
      have Qf := F.free
      have Ql := F.lt
      clear Q F
      simp only [putCells]
      go_simp; first | done | with_reducible rfl | rfl
    simp only [Act.put, planVG, List.setIfInBounds_toArray, List.set_cons_zero, List.set_cons_succ, List.getElem?_cons_zero, List.getElem?_cons_succ]
    refine ⟨?_, ?_⟩
    · as_aux_lemma =>
      intro y_ hS_ hD
      have hS := hS_ (by rfl)
      clear hS hS_ hD
      refine s_gput (j := 11) (Z := #[.int .u64 0, .int .u64 0]) (V := [.int .u64 (limb 1 (farN R D (n % 3000).toNat)), .int .u64 (limb 0 (farN R D (n % 3000).toNat))]) [ρ 11, bitsV (farN R D (n % 3000).toNat)] (by kernel_rfl) (by kernel_rfl) (by kernel_rfl) (by kernel_rfl) ?_
      intro r_ b hr_ hb hB F
      have o0_ : r_ (.tmp 21) = ρ 11 := op_at hr_ 0 (by kernel_rfl) (by kernel_rfl)
      have o1_ : r_ (.tmp 102) = bitsV (farN R D (n % 3000).toNat) := op_at hr_ 1 (by kernel_rfl) (by kernel_rfl)
      clear hr_
      rw [hb] at o0_
      have Q := F.cell
      have q0 := Q 0 _ rfl
      have q1 := Q 1 _ rfl
      have Qf := F.free
      have Ql := F.lt
      clear Q F
      simp only [putCells]
      go_simp; first | done | with_reducible rfl | rfl
    simp only [Act.put, planVG, List.setIfInBounds_toArray, List.set_cons_zero, List.set_cons_succ, List.getElem?_cons_zero, List.getElem?_cons_succ]
    as_aux_lemma =>
      intro w5 hS hF hD_
      change wpList _ _ _ _ _ _
      replace hS := sg_no (by decide) hS
      obtain ⟨hk, hZ5, X1, X2⟩ := hS
      obtain ⟨v11_10, e_v11_10, hv11_10, Bv11_10⟩ : ∃ b, ρ 10 = .pointer (some ⟨b, 0, none⟩) ∧ w4.heap.size ≤ b ∧ Box w5 b #[.int .u64 (limb 0 (divN (left256 R (n % 3000)) D)), .int .u64 (limb 1 (divN (left256 R (n % 3000)) D)), .int .u64 (limb 2 (divN (left256 R (n % 3000)) D)), .int .u64 (limb 3 (divN (left256 R (n % 3000)) D))] := by
        obtain ⟨b, h1, h2, h3⟩ := hF 10 (by decide)
        exact ⟨b, h1, h2, h3.lt, h3.cell, h3.free⟩
      obtain ⟨v11_11, e_v11_11, hv11_11, Bv11_11⟩ : ∃ b, ρ 11 = .pointer (some ⟨b, 0, none⟩) ∧ w4.heap.size ≤ b ∧ Box w5 b #[.int .u64 (limb 1 (farN R D (n % 3000).toNat)), .int .u64 (limb 0 (farN R D (n % 3000).toNat))] := by
        obtain ⟨b, h1, h2, h3⟩ := hF 11 (by decide)
        exact ⟨b, h1, h2, h3.lt, h3.cell, h3.free⟩
      have nv11_10_v11_11 : ¬ v11_10 = v11_11 := fun h => hD_ 10 11 (by decide) (by decide) (by decide) (by rfl) (by rfl) (by rw [e_v11_10, e_v11_11, h])
      have nv11_11_v11_10 : ¬ v11_11 = v11_10 := fun h => nv11_10_v11_11 h.symm
      clear hF hD_
      simp only [e_v11_10]
      clear e_v11_10
      simp only [e_v11_11]
      clear e_v11_11
      clear ρ
      have hz_w5 := hk.size
      have X1l := X1.lt
      have X1f := X1.free
      have X1l1 : w.heap.size < w5.heap.size + 1 := by omega
      have X1l2 : w.heap.size < w5.heap.size + 1 + 1 := by omega
      have X1l3 : w.heap.size < w5.heap.size + 1 + 1 + 1 := by omega
      have X10 := X1.cell 0 _ rfl
      have X11 := X1.cell 1 _ rfl
      have X2l := X2.lt
      have X2f := X2.free
      have X2l1 : w.heap.size + 1 < w5.heap.size + 1 := by omega
      have X2l2 : w.heap.size + 1 < w5.heap.size + 1 + 1 := by omega
      have X2l3 : w.heap.size + 1 < w5.heap.size + 1 + 1 + 1 := by omega
      have X20 := X2.cell 0 _ rfl
      have X21 := X2.cell 1 _ rfl
      have Bv11_10l := Bv11_10.lt
      have Bv11_10f := Bv11_10.free
      have Bv11_10l1 : v11_10 < w5.heap.size + 1 := by omega
      have Bv11_10l2 : v11_10 < w5.heap.size + 1 + 1 := by omega
      have Bv11_10l3 : v11_10 < w5.heap.size + 1 + 1 + 1 := by omega
      have Bv11_100 := Bv11_10.cell 0 _ rfl
      have Bv11_101 := Bv11_10.cell 1 _ rfl
      have Bv11_102 := Bv11_10.cell 2 _ rfl
      have Bv11_103 := Bv11_10.cell 3 _ rfl
      have Bv11_11l := Bv11_11.lt
      have Bv11_11f := Bv11_11.free
      have Bv11_11l1 : v11_11 < w5.heap.size + 1 := by omega
      have Bv11_11l2 : v11_11 < w5.heap.size + 1 + 1 := by omega
      have Bv11_11l3 : v11_11 < w5.heap.size + 1 + 1 + 1 := by omega
      have Bv11_110 := Bv11_11.cell 0 _ rfl
      have Bv11_111 := Bv11_11.cell 1 _ rfl
      go_wp2_with fail
      (with_reducible refine (calls_to (V := .tuple #[bitsV (farN R D ((n % 3000).toNat)), .bool false, .bool true]) (Mod_at (IsBits.of hR) (IsBits.of hD) h ((n % 3000).toNat) (z := n % 3000) (by omega) (by omega) _) (by rw [OX.out])).mono ?_)
      rintro e w6 ⟨rfl, hb⟩
      have Bv11_11' : Box w6 (v11_11) #[.int .u64 (limb 1 (farN R D (n % 3000).toNat)), .int .u64 (limb 0 (farN R D (n % 3000).toNat))] := Box.call hb (by repeat (first | with_reducible assumption | with_reducible apply Box.set10 | with_reducible apply Box.set20 | with_reducible apply Box.set21 | with_reducible apply Box.set40 | with_reducible apply Box.set41 | with_reducible apply Box.set42 | with_reducible apply Box.set43 | with_reducible apply Box.set50 | with_reducible apply Box.set51 | with_reducible apply Box.set52 | with_reducible apply Box.set53 | with_reducible apply Box.set54 | with_reducible apply Box.drew | (with_reducible apply Box.newAt; (try simp only [World.size_alloc, World.size_setCell, World.size_drew]); done) | with_reducible apply Box.alloc | (with_reducible apply Box.other; case hne => ((try simp only [World.size_alloc, World.size_setCell, World.size_drew]); omega))))
      have hk' : Kept w.heap.size w w6 := Kept.step (by repeat (first | with_reducible exact hk | with_reducible exact Kept.refl _ | with_reducible refine Kept.alloc ?_ _ | with_reducible refine Kept.drew ?_ | with_reducible refine Kept.setCell ?_ (by simp only [World.size_alloc, World.size_setCell, World.size_drew]; omega) _)) hb
      clear hk hb
      clear X1 X1l1 X1l2 X1l3 X1f X10 X11
      clear X2 X2l1 X2l2 X2l3 X2f X20 X21
      clear Bv11_10 Bv11_10l1 Bv11_10l2 Bv11_10l3 Bv11_10f Bv11_100 Bv11_101 Bv11_102 Bv11_103
      clear Bv11_11 Bv11_11l1 Bv11_11l2 Bv11_11l3 Bv11_11f Bv11_110 Bv11_111
      have Bv11_11 := Bv11_11'
      clear Bv11_11'
      have hk := hk'
      clear hk'
      have hz_w6 := hk.size
      have Bv11_11l := Bv11_11.lt
      have Bv11_11f := Bv11_11.free
      have Bv11_11l1 : v11_11 < w6.heap.size + 1 := by omega
      have Bv11_11l2 : v11_11 < w6.heap.size + 1 + 1 := by omega
      have Bv11_11l3 : v11_11 < w6.heap.size + 1 + 1 + 1 := by omega
      have Bv11_110 := Bv11_11.cell 0 _ rfl
      have Bv11_111 := Bv11_11.cell 1 _ rfl
      go_upto_region 13 with fail
      refine wp_region_p 19 (fun W' => Kept w.heap.size w W' ∧ w6.heap.size + 1 ≤ W'.heap.size ∧ Box W' (v11_11) #[.int .u64 (limb 1 (farN R D (n % 3000).toNat)), .int .u64 (limb 0 (farN R D (n % 3000).toNat))] ∧ Box W' (w6.heap.size) #[.int .u64 (limb 1 (farN R D ((n % 3000).toNat))), .int .u64 (limb 0 (farN R D ((n % 3000).toNat)))]) (fun W' => Kept w.heap.size w W' ∧ w6.heap.size + 1 ≤ W'.heap.size ∧ Box W' (v11_11) #[.int .u64 (limb 1 (farN R D (n % 3000).toNat)), .int .u64 (limb 0 (farN R D (n % 3000).toNat))] ∧ Box W' (w6.heap.size) #[.int .u64 (limb 1 (farN R D ((n % 3000).toNat))), .int .u64 (limb 0 (farN R D ((n % 3000).toNat)))]) 1000 (w6.heap.size + 1) [.known (bitsV (farN R D (n % 3000).toNat)), .known (bitsV (farN R D ((n % 3000).toNat))), .known (.bool true), .known (.bool true), .known (.bool false), .known (.int .i64 (n % 3000)), .known (.bool false), .known (.bool false), .known undef, .known undef, .known undef, .known undef, .known (.bool false), .known (.bool true), .known (.bool true), .known (.bool true), .known (.bool true), .known (.bool true), .known (.bool true)] (by kernel_rfl) (by kernel_rfl) (fun W W' h hb => ⟨h.1.step hb, Nat.le_trans (h.2.1) hb.size, Box.call hb (h.2.2.1), Box.call hb (h.2.2.2)⟩) (fun W W' h hb => ⟨h.1.step hb, Nat.le_trans (h.2.1) hb.size, Box.call hb (h.2.2.1), Box.call hb (h.2.2.2)⟩) (no_out (of_decide_eq_true (by kernel_rfl))) (.inl (by kernel_rfl)) (.inl (by kernel_rfl)) (fun _ h => h.2.1) (fun _ h => h.2.1) (⟨(by repeat (first | with_reducible exact hk | with_reducible exact Kept.refl _ | with_reducible refine Kept.alloc ?_ _ | with_reducible refine Kept.drew ?_ | with_reducible refine Kept.setCell ?_ (by simp only [World.size_alloc, World.size_setCell, World.size_drew]; omega) _)), (by (try simp only [World.size_alloc, World.size_setCell, World.size_drew]); omega), (by repeat (first | with_reducible assumption | with_reducible apply Box.set10 | with_reducible apply Box.set20 | with_reducible apply Box.set21 | with_reducible apply Box.set40 | with_reducible apply Box.set41 | with_reducible apply Box.set42 | with_reducible apply Box.set43 | with_reducible apply Box.set50 | with_reducible apply Box.set51 | with_reducible apply Box.set52 | with_reducible apply Box.set53 | with_reducible apply Box.set54 | with_reducible apply Box.drew | (with_reducible apply Box.newAt; (try simp only [World.size_alloc, World.size_setCell, World.size_drew]); done) | with_reducible apply Box.alloc | (with_reducible apply Box.other; case hne => ((try simp only [World.size_alloc, World.size_setCell, World.size_drew]); omega)))), (by repeat (first | with_reducible assumption | with_reducible apply Box.set10 | with_reducible apply Box.set20 | with_reducible apply Box.set21 | with_reducible apply Box.set40 | with_reducible apply Box.set41 | with_reducible apply Box.set42 | with_reducible apply Box.set43 | with_reducible apply Box.set50 | with_reducible apply Box.set51 | with_reducible apply Box.set52 | with_reducible apply Box.set53 | with_reducible apply Box.set54 | with_reducible apply Box.drew | (with_reducible apply Box.newAt; (try simp only [World.size_alloc, World.size_setCell, World.size_drew]); done) | with_reducible apply Box.alloc | (with_reducible apply Box.other; case hne => ((try simp only [World.size_alloc, World.size_setCell, World.size_drew]); omega))))⟩) ?_
      clear hk
      clear Bv11_11 Bv11_11l1 Bv11_11l2 Bv11_11l3 Bv11_11f Bv11_110 Bv11_111
      intro ρ
      simp only [List.take_succ_cons, List.take_zero, List.drop_succ_cons, List.drop_zero]
      refine ⟨?_, ?_⟩
      · as_aux_lemma =>
        intro y_ hS_ hD
        have hS := hS_ (by rfl)
        have Q := (hS.2.2.1).cell
        have q0 := Q 0 _ rfl
        have q1 := Q 1 _ rfl
        clear Q hS hS_ hD
        refine s_gen (V := bitsV (farN R D (n % 3000).toNat)) [.pointer (some ⟨v11_11, 0, none⟩)] (by kernel_rfl) (by kernel_rfl) (by kernel_rfl) ?_
        intro r_ hr_
        have o0_ : r_ (.tmp 21) = .pointer (some ⟨v11_11, 0, none⟩) := op_at hr_ 0 (by kernel_rfl) (by kernel_rfl)
        clear hr_
        go_simp; first | done | with_reducible rfl
      simp only [Act.put, planVG, List.setIfInBounds_toArray, List.set_cons_zero, List.set_cons_succ, List.getElem?_cons_zero, List.getElem?_cons_succ]
      refine ⟨?_, ?_⟩
      · as_aux_lemma =>
        intro y_ hS_ hD
        have hS := hS_ (by rfl)
        have Q := (hS.2.2.2).cell
        have q0 := Q 0 _ rfl
        have q1 := Q 1 _ rfl
        clear Q hS hS_ hD
        refine s_gen (V := bitsV (farN R D ((n % 3000).toNat))) [.pointer (some ⟨w6.heap.size, 0, none⟩)] (by kernel_rfl) (by kernel_rfl) (by kernel_rfl) ?_
        intro r_ hr_
        have o0_ : r_ (.tmp 23) = .pointer (some ⟨w6.heap.size, 0, none⟩) := op_at hr_ 0 (by kernel_rfl) (by kernel_rfl)
        clear hr_
        go_simp; first | done | with_reducible rfl
      simp only [Act.put, planVG, List.setIfInBounds_toArray, List.set_cons_zero, List.set_cons_succ, List.getElem?_cons_zero, List.getElem?_cons_succ]
      refine ⟨?_, ?_⟩
      · as_aux_lemma =>
        intro y_ hS_ hD
        clear hS_ hD
        refine s_gen (V := .bool true) [bitsV (farN R D (n % 3000).toNat), bitsV (farN R D ((n % 3000).toNat))] (by kernel_rfl) (by kernel_rfl) (by kernel_rfl) ?_
        intro r_ hr_
        have o0_ : r_ (.tmp 112) = bitsV (farN R D (n % 3000).toNat) := op_at hr_ 0 (by kernel_rfl) (by kernel_rfl)
        have o1_ : r_ (.tmp 113) = bitsV (farN R D ((n % 3000).toNat)) := op_at hr_ 1 (by kernel_rfl) (by kernel_rfl)
        clear hr_
        go_simp; first | done | with_reducible rfl
      simp only [Act.put, planVG, List.setIfInBounds_toArray, List.set_cons_zero, List.set_cons_succ, List.getElem?_cons_zero, List.getElem?_cons_succ]
      refine ⟨?_, ?_⟩
      · as_aux_lemma =>
        intro y_ hS_ hD
        clear hS_ hD
        refine s_gen (V := .bool true) [.bool true] (by kernel_rfl) (by kernel_rfl) (by kernel_rfl) ?_
        intro r_ hr_
        have o0_ : r_ (.tmp 114) = .bool true := op_at hr_ 0 (by kernel_rfl) (by kernel_rfl)
        clear hr_
        go_simp; first | done | with_reducible rfl
      simp only [Act.put, planVG, List.setIfInBounds_toArray, List.set_cons_zero, List.set_cons_succ, List.getElem?_cons_zero, List.getElem?_cons_succ]
      refine ⟨?_, ?_⟩
      · as_aux_lemma =>
        intro y_ hS_ hD
        clear hS_ hD
        refine s_gen (V := .bool false) [.bool false] (by kernel_rfl) (by kernel_rfl) (by kernel_rfl) ?_
        intro r_ hr_
        have o0_ : r_ (.tmp 24) = .bool false := op_at hr_ 0 (by kernel_rfl) (by kernel_rfl)
        clear hr_
        go_simp; first | done | with_reducible rfl
      simp only [Act.put, planVG, List.setIfInBounds_toArray, List.set_cons_zero, List.set_cons_succ, List.getElem?_cons_zero, List.getElem?_cons_succ]
      refine ⟨?_, ?_⟩
      · as_aux_lemma =>
        intro y_ hS_ hD
        clear hS_ hD
        refine s_gen (V := .int .i64 (n % 3000)) [.int .i64 (n % 3000)] (by kernel_rfl) (by kernel_rfl) (by kernel_rfl) ?_
        intro r_ hr_
        have o0_ : r_ (.tmp 9) = .int .i64 (n % 3000) := op_at hr_ 0 (by kernel_rfl) (by kernel_rfl)
        clear hr_
        go_simp; first | done | with_reducible rfl
      simp only [Act.put, planVG, List.setIfInBounds_toArray, List.set_cons_zero, List.set_cons_succ, List.getElem?_cons_zero, List.getElem?_cons_succ]
      refine ⟨?_, ?_⟩
      · as_aux_lemma =>
        intro y_ hS_ hD
        clear hS_ hD
        refine s_gen (V := .bool false) [.int .i64 (n % 3000), .int .i64 0] (by kernel_rfl) (by kernel_rfl) (by kernel_rfl) ?_
        intro r_ hr_
        have o0_ : r_ (.tmp 117) = .int .i64 (n % 3000) := op_at hr_ 0 (by kernel_rfl) (by kernel_rfl)
        have o1_ : r_ (.const (.int .i64 0)) = .int .i64 0 := op_at hr_ 1 (by kernel_rfl) (by kernel_rfl)
        clear hr_
        go_simp; first | done | with_reducible rfl
      simp only [Act.put, planVG, List.setIfInBounds_toArray, List.set_cons_zero, List.set_cons_succ, List.getElem?_cons_zero, List.getElem?_cons_succ]
      refine ⟨?_, ?_⟩
      · as_aux_lemma =>
        intro y_ hS_ hD
        clear hS_ hD
        refine s_gen (V := .bool false) [.bool false] (by kernel_rfl) (by kernel_rfl) (by kernel_rfl) ?_
        intro r_ hr_
        have o0_ : r_ (.tmp 118) = .bool false := op_at hr_ 0 (by kernel_rfl) (by kernel_rfl)
        clear hr_
        go_simp; first | done | with_reducible rfl
      simp only [Act.put, planVG, List.setIfInBounds_toArray, List.set_cons_zero, List.set_cons_succ, List.getElem?_cons_zero, List.getElem?_cons_succ]
      refine ⟨?_, ?_⟩
      · as_aux_lemma =>
        intro y_ hS_ hD
        exact s_skip (by rfl) (by rfl)
      simp only [Act.put, planVG, List.setIfInBounds_toArray, List.set_cons_zero, List.set_cons_succ, List.getElem?_cons_zero, List.getElem?_cons_succ]
      refine ⟨?_, ?_⟩
      · as_aux_lemma =>
        intro y_ hS_ hD
        exact s_skip (by rfl) (by rfl)
      simp only [Act.put, planVG, List.setIfInBounds_toArray, List.set_cons_zero, List.set_cons_succ, List.getElem?_cons_zero, List.getElem?_cons_succ]
      refine ⟨?_, ?_⟩
      · as_aux_lemma =>
        intro y_ hS_ hD
        exact s_skip (by rfl) (by rfl)
      simp only [Act.put, planVG, List.setIfInBounds_toArray, List.set_cons_zero, List.set_cons_succ, List.getElem?_cons_zero, List.getElem?_cons_succ]
      refine ⟨?_, ?_⟩
      · as_aux_lemma =>
        intro y_ hS_ hD
        exact s_skip (by rfl) (by rfl)
      simp only [Act.put, planVG, List.setIfInBounds_toArray, List.set_cons_zero, List.set_cons_succ, List.getElem?_cons_zero, List.getElem?_cons_succ]
      refine ⟨?_, ?_⟩
      · as_aux_lemma =>
        intro y_ hS_ hD
        clear hS_ hD
        refine s_gen (V := .bool false) [.bool false, undef, .bool false] (by kernel_rfl) (by kernel_rfl) (by kernel_rfl) ?_
        intro r_ hr_
        have o0_ : r_ (.tmp 119) = .bool false := op_at hr_ 0 (by kernel_rfl) (by kernel_rfl)
        have o1_ : r_ (.tmp 123) = undef := op_at hr_ 1 (by kernel_rfl) (by kernel_rfl)
        have o2_ : r_ (.const (.bool false)) = .bool false := op_at hr_ 2 (by kernel_rfl) (by kernel_rfl)
        clear hr_
        go_simp; first | done | with_reducible rfl
      simp only [Act.put, planVG, List.setIfInBounds_toArray, List.set_cons_zero, List.set_cons_succ, List.getElem?_cons_zero, List.getElem?_cons_succ]
      refine ⟨?_, ?_⟩
      · as_aux_lemma =>
        intro y_ hS_ hD
        clear hS_ hD
        refine s_gen (V := .bool true) [.bool false, .bool false] (by kernel_rfl) (by kernel_rfl) (by kernel_rfl) ?_
        intro r_ hr_
        have o0_ : r_ (.tmp 116) = .bool false := op_at hr_ 0 (by kernel_rfl) (by kernel_rfl)
        have o1_ : r_ (.tmp 124) = .bool false := op_at hr_ 1 (by kernel_rfl) (by kernel_rfl)
        clear hr_
        go_simp; first | done | with_reducible rfl
      simp only [Act.put, planVG, List.setIfInBounds_toArray, List.set_cons_zero, List.set_cons_succ, List.getElem?_cons_zero, List.getElem?_cons_succ]
      refine ⟨?_, ?_⟩
      · as_aux_lemma =>
        intro y_ hS_ hD
        clear hS_ hD
        refine s_gen (V := .bool true) [.bool true, .bool true, .bool false] (by kernel_rfl) (by kernel_rfl) (by kernel_rfl) ?_
        intro r_ hr_
        have o0_ : r_ (.tmp 115) = .bool true := op_at hr_ 0 (by kernel_rfl) (by kernel_rfl)
        have o1_ : r_ (.tmp 125) = .bool true := op_at hr_ 1 (by kernel_rfl) (by kernel_rfl)
        have o2_ : r_ (.const (.bool false)) = .bool false := op_at hr_ 2 (by kernel_rfl) (by kernel_rfl)
        clear hr_
        go_simp; first | done | with_reducible rfl
      simp only [Act.put, planVG, List.setIfInBounds_toArray, List.set_cons_zero, List.set_cons_succ, List.getElem?_cons_zero, List.getElem?_cons_succ]
      refine ⟨?_, ?_⟩
      · as_aux_lemma =>
        intro y_ hS_ hD
        clear hS_ hD
        refine s_gen (V := .bool true) [.bool true] (by kernel_rfl) (by kernel_rfl) (by kernel_rfl) ?_
        intro r_ hr_
        have o0_ : r_ (.tmp 126) = .bool true := op_at hr_ 0 (by kernel_rfl) (by kernel_rfl)
        clear hr_
        go_simp; first | done | with_reducible rfl
      simp only [Act.put, planVG, List.setIfInBounds_toArray, List.set_cons_zero, List.set_cons_succ, List.getElem?_cons_zero, List.getElem?_cons_succ]
      refine ⟨?_, ?_⟩
      · as_aux_lemma =>
        intro y_ hS_ hD
        try clear hS
        clear hS_ hD
        refine s_gcall (V := .bool true) [.func (.func 37) #[] #[]] ?_ ?_ (by kernel_rfl) (by kernel_rfl) (by kernel_rfl) ?_ ?_
        rotate_left 2
        · intro r_ hr_
          have o0_ : r_ (.func 37) = .func (.func 37) #[] #[] := op_at hr_ 0 (by kernel_rfl) (by kernel_rfl)
          clear hr_
          go_simp; first | done | with_reducible rfl | (constructor <;> with_reducible rfl)
        · refine goes05_any _
      simp only [Act.put, planVG, List.setIfInBounds_toArray, List.set_cons_zero, List.set_cons_succ, List.getElem?_cons_zero, List.getElem?_cons_succ]
      refine ⟨?_, ?_⟩
      · as_aux_lemma =>
        intro y_ hS_ hD
        clear hS_ hD
        refine s_gen (V := .bool true) [.bool true, .bool true, .bool false] (by kernel_rfl) (by kernel_rfl) (by kernel_rfl) ?_
        intro r_ hr_
        have o0_ : r_ (.tmp 127) = .bool true := op_at hr_ 0 (by kernel_rfl) (by kernel_rfl)
        have o1_ : r_ (.tmp 128) = .bool true := op_at hr_ 1 (by kernel_rfl) (by kernel_rfl)
        have o2_ : r_ (.const (.bool false)) = .bool false := op_at hr_ 2 (by kernel_rfl) (by kernel_rfl)
        clear hr_
        go_simp; first | done | with_reducible rfl
      simp only [Act.put, planVG, List.setIfInBounds_toArray, List.set_cons_zero, List.set_cons_succ, List.getElem?_cons_zero, List.getElem?_cons_succ]
      refine ⟨?_, ?_⟩
      · as_aux_lemma =>
        intro y_ hS_ hD
        clear hS_ hD
        refine s_gen (V := .bool true) [.bool true] (by kernel_rfl) (by kernel_rfl) (by kernel_rfl) ?_
        intro r_ hr_
        have o0_ : r_ (.tmp 129) = .bool true := op_at hr_ 0 (by kernel_rfl) (by kernel_rfl)
        clear hr_
        go_simp; first | done | with_reducible rfl
      simp only [Act.put, planVG, List.setIfInBounds_toArray, List.set_cons_zero, List.set_cons_succ, List.getElem?_cons_zero, List.getElem?_cons_succ]
      as_aux_lemma =>
        intro w7 hS hF hD_
        change wpList _ _ _ _ _ _
        replace hS := sg_no (by decide) hS
        obtain ⟨hk, hZ7, Bv11_11, X5⟩ := hS
        clear hF hD_
        clear ρ
        have hz_w7 := hk.size
        have Bv11_11l := Bv11_11.lt
        have Bv11_11f := Bv11_11.free
        have Bv11_11l1 : v11_11 < w7.heap.size + 1 := by omega
        have Bv11_11l2 : v11_11 < w7.heap.size + 1 + 1 := by omega
        have Bv11_11l3 : v11_11 < w7.heap.size + 1 + 1 + 1 := by omega
        have Bv11_110 := Bv11_11.cell 0 _ rfl
        have Bv11_111 := Bv11_11.cell 1 _ rfl
        have X5l := X5.lt
        have X5f := X5.free
        have X5l1 : w6.heap.size < w7.heap.size + 1 := by omega
        have X5l2 : w6.heap.size < w7.heap.size + 1 + 1 := by omega
        have X5l3 : w6.heap.size < w7.heap.size + 1 + 1 + 1 := by omega
        have X50 := X5.cell 0 _ rfl
        have X51 := X5.cell 1 _ rfl
        go_wp2
        go_ret
        exact ⟨rfl, (by refine Kept.below ?_; repeat (first | with_reducible exact hk | with_reducible exact Kept.refl _ | with_reducible refine Kept.alloc ?_ _ | with_reducible refine Kept.drew ?_ | with_reducible refine Kept.setCell ?_ (by simp only [World.size_alloc, World.size_setCell, World.size_drew]; omega) _))⟩

set_option maxRecDepth 100000 in
set_option maxHeartbeats 8000000 in
theorem QuotTwice_0mid1 {R D : Nat} {n m : Int} (hR : W128 R) (hD : W128 D) (n0 : 0 ≤ n) (n1 : n ≤ 65535) (m0 : 0 ≤ m) (m1 : m ≤ 65535) (h : R < D) (y0 : m % 3000 = 0) (x0 : 0 < n % 3000) (x1 : n % 3000 ≤ 128) (ho : oddF R D ((n % 3000).toNat) = true) (w : World) :
    Calls Try.prog 13 #[bitsV R, .int .u16 n, .int .u16 m, bitsV D] w fun e w' => e = .returned (.bool true) ∧ Below w.heap.size w w' := by
  have hk := Kept.refl w
  have c1 := cmp_lt h
  have HP : 0 < D := by omega
  have EF := Lib.hid (far_far R D ((n % 3000).toNat) ((m % 3000).toNat))
  have ww : IntKind.i64.wrap (n % 3000 + m % 3000) = n % 3000 + m % 3000 := IntWalk.i64_in _ (by omega)
  obtain ⟨el, eb⟩ := qt_left (D := D) (x := n % 3000) hR (by omega) (by omega)
  have ox : oddF R D ((n % 3000).toNat) = true := ho
  rw [ox] at eb
  have eb2 : bits .and .u64 (limb 0 (divN (left256 R (n % 3000)) D)) 1 = 1 := eb
  clear eb
  have EL := Lib.hid el; have OX := Lib.hid ox
  clear el ox
  have yn : ¬ 0 < m % 3000 := by omega
  clear y0
  clear ho
  go_enter Try.func13, Try.ntmps13
  go_wp2_with fail
  (with_reducible refine (calls_to (V := .tuple #[bitsV (farN R D ((n % 3000).toNat)), .bool true, .bool true]) (Mod_at (IsBits.of hR) (IsBits.of hD) h ((n % 3000).toNat) (z := n % 3000) (by omega) (by omega) _) (by rw [OX.out])).mono ?_)
  rintro e w1 ⟨rfl, hb⟩
  have X1' : Box w1 (w.heap.size) #[.int .u64 (limb 1 R), .int .u64 (limb 0 R)] := Box.call hb (by repeat (first | with_reducible assumption | with_reducible apply Box.set10 | with_reducible apply Box.set20 | with_reducible apply Box.set21 | with_reducible apply Box.set40 | with_reducible apply Box.set41 | with_reducible apply Box.set42 | with_reducible apply Box.set43 | with_reducible apply Box.set50 | with_reducible apply Box.set51 | with_reducible apply Box.set52 | with_reducible apply Box.set53 | with_reducible apply Box.set54 | with_reducible apply Box.drew | (with_reducible apply Box.newAt; (try simp only [World.size_alloc, World.size_setCell, World.size_drew]); done) | with_reducible apply Box.alloc | (with_reducible apply Box.other; case hne => ((try simp only [World.size_alloc, World.size_setCell, World.size_drew]); omega))))
  have X2' : Box w1 (w.heap.size + 1) #[.int .u64 (limb 1 D), .int .u64 (limb 0 D)] := Box.call hb (by repeat (first | with_reducible assumption | with_reducible apply Box.set10 | with_reducible apply Box.set20 | with_reducible apply Box.set21 | with_reducible apply Box.set40 | with_reducible apply Box.set41 | with_reducible apply Box.set42 | with_reducible apply Box.set43 | with_reducible apply Box.set50 | with_reducible apply Box.set51 | with_reducible apply Box.set52 | with_reducible apply Box.set53 | with_reducible apply Box.set54 | with_reducible apply Box.drew | (with_reducible apply Box.newAt; (try simp only [World.size_alloc, World.size_setCell, World.size_drew]); done) | with_reducible apply Box.alloc | (with_reducible apply Box.other; case hne => ((try simp only [World.size_alloc, World.size_setCell, World.size_drew]); omega))))
  have hk' : Kept w.heap.size w w1 := Kept.step (by repeat (first | with_reducible exact hk | with_reducible exact Kept.refl _ | with_reducible refine Kept.alloc ?_ _ | with_reducible refine Kept.drew ?_ | with_reducible refine Kept.setCell ?_ (by simp only [World.size_alloc, World.size_setCell, World.size_drew]; omega) _)) hb
  clear hk hb
  have X1 := X1'
  clear X1'
  have X2 := X2'
  clear X2'
  have hk := hk'
  clear hk'
  have hz_w1 := hk.size
  have X1l := X1.lt
  have X1f := X1.free
  have X1l1 : w.heap.size < w1.heap.size + 1 := by omega
  have X1l2 : w.heap.size < w1.heap.size + 1 + 1 := by omega
  have X1l3 : w.heap.size < w1.heap.size + 1 + 1 + 1 := by omega
  have X10 := X1.cell 0 _ rfl
  have X11 := X1.cell 1 _ rfl
  have X2l := X2.lt
  have X2f := X2.free
  have X2l1 : w.heap.size + 1 < w1.heap.size + 1 := by omega
  have X2l2 : w.heap.size + 1 < w1.heap.size + 1 + 1 := by omega
  have X2l3 : w.heap.size + 1 < w1.heap.size + 1 + 1 + 1 := by omega
  have X20 := X2.cell 0 _ rfl
  have X21 := X2.cell 1 _ rfl
  go_wp2_with fail
  (with_reducible refine (Cmp_at (IsBits.of hR) (IsBits.of hD) _).mono ?_)
  rintro e w2 ⟨rfl, hb⟩
  have X1' : Box w2 (w.heap.size) #[.int .u64 (limb 1 R), .int .u64 (limb 0 R)] := Box.call hb (by repeat (first | with_reducible assumption | with_reducible apply Box.set10 | with_reducible apply Box.set20 | with_reducible apply Box.set21 | with_reducible apply Box.set40 | with_reducible apply Box.set41 | with_reducible apply Box.set42 | with_reducible apply Box.set43 | with_reducible apply Box.set50 | with_reducible apply Box.set51 | with_reducible apply Box.set52 | with_reducible apply Box.set53 | with_reducible apply Box.set54 | with_reducible apply Box.drew | (with_reducible apply Box.newAt; (try simp only [World.size_alloc, World.size_setCell, World.size_drew]); done) | with_reducible apply Box.alloc | (with_reducible apply Box.other; case hne => ((try simp only [World.size_alloc, World.size_setCell, World.size_drew]); omega))))
  have X2' : Box w2 (w.heap.size + 1) #[.int .u64 (limb 1 D), .int .u64 (limb 0 D)] := Box.call hb (by repeat (first | with_reducible assumption | with_reducible apply Box.set10 | with_reducible apply Box.set20 | with_reducible apply Box.set21 | with_reducible apply Box.set40 | with_reducible apply Box.set41 | with_reducible apply Box.set42 | with_reducible apply Box.set43 | with_reducible apply Box.set50 | with_reducible apply Box.set51 | with_reducible apply Box.set52 | with_reducible apply Box.set53 | with_reducible apply Box.set54 | with_reducible apply Box.drew | (with_reducible apply Box.newAt; (try simp only [World.size_alloc, World.size_setCell, World.size_drew]); done) | with_reducible apply Box.alloc | (with_reducible apply Box.other; case hne => ((try simp only [World.size_alloc, World.size_setCell, World.size_drew]); omega))))
  have X3' : Box w2 (w1.heap.size) #[.int .u64 (limb 1 (farN R D ((n % 3000).toNat))), .int .u64 (limb 0 (farN R D ((n % 3000).toNat)))] := Box.call hb (by repeat (first | with_reducible assumption | with_reducible apply Box.set10 | with_reducible apply Box.set20 | with_reducible apply Box.set21 | with_reducible apply Box.set40 | with_reducible apply Box.set41 | with_reducible apply Box.set42 | with_reducible apply Box.set43 | with_reducible apply Box.set50 | with_reducible apply Box.set51 | with_reducible apply Box.set52 | with_reducible apply Box.set53 | with_reducible apply Box.set54 | with_reducible apply Box.drew | (with_reducible apply Box.newAt; (try simp only [World.size_alloc, World.size_setCell, World.size_drew]); done) | with_reducible apply Box.alloc | (with_reducible apply Box.other; case hne => ((try simp only [World.size_alloc, World.size_setCell, World.size_drew]); omega))))
  have hk' : Kept w.heap.size w w2 := Kept.step (by repeat (first | with_reducible exact hk | with_reducible exact Kept.refl _ | with_reducible refine Kept.alloc ?_ _ | with_reducible refine Kept.drew ?_ | with_reducible refine Kept.setCell ?_ (by simp only [World.size_alloc, World.size_setCell, World.size_drew]; omega) _)) hb
  clear hk hb
  clear X1 X1l1 X1l2 X1l3 X1f X10 X11
  clear X2 X2l1 X2l2 X2l3 X2f X20 X21
  have X1 := X1'
  clear X1'
  have X2 := X2'
  clear X2'
  have X3 := X3'
  clear X3'
  have hk := hk'
  clear hk'
  have hz_w2 := hk.size
  have X1l := X1.lt
  have X1f := X1.free
  have X1l1 : w.heap.size < w2.heap.size + 1 := by omega
  have X1l2 : w.heap.size < w2.heap.size + 1 + 1 := by omega
  have X1l3 : w.heap.size < w2.heap.size + 1 + 1 + 1 := by omega
  have X10 := X1.cell 0 _ rfl
  have X11 := X1.cell 1 _ rfl
  have X2l := X2.lt
  have X2f := X2.free
  have X2l1 : w.heap.size + 1 < w2.heap.size + 1 := by omega
  have X2l2 : w.heap.size + 1 < w2.heap.size + 1 + 1 := by omega
  have X2l3 : w.heap.size + 1 < w2.heap.size + 1 + 1 + 1 := by omega
  have X20 := X2.cell 0 _ rfl
  have X21 := X2.cell 1 _ rfl
  have X3l := X3.lt
  have X3f := X3.free
  have X3l1 : w1.heap.size < w2.heap.size + 1 := by omega
  have X3l2 : w1.heap.size < w2.heap.size + 1 + 1 := by omega
  have X3l3 : w1.heap.size < w2.heap.size + 1 + 1 + 1 := by omega
  have X30 := X3.cell 0 _ rfl
  have X31 := X3.cell 1 _ rfl
  go_wp2_with fail
  (with_reducible refine (calls_to (V := .tuple #[bitsV (farN R D ((n % 3000).toNat + (m % 3000).toNat)), .bool (oddF (farN R D ((n % 3000).toNat)) D ((m % 3000).toNat)), .bool true]) (Mod_at (IsBits.of (far_w _ (IsBits.of hD).w h _)) (IsBits.of hD) (far_lt R HP ((n % 3000).toNat)) ((m % 3000).toNat) (z := m % 3000) (by omega) (by omega) _) (by rw [EF.out])).mono ?_)
  rintro e w3 ⟨rfl, hb⟩
  have X1' : Box w3 (w.heap.size) #[.int .u64 (limb 1 R), .int .u64 (limb 0 R)] := Box.call hb (by repeat (first | with_reducible assumption | with_reducible apply Box.set10 | with_reducible apply Box.set20 | with_reducible apply Box.set21 | with_reducible apply Box.set40 | with_reducible apply Box.set41 | with_reducible apply Box.set42 | with_reducible apply Box.set43 | with_reducible apply Box.set50 | with_reducible apply Box.set51 | with_reducible apply Box.set52 | with_reducible apply Box.set53 | with_reducible apply Box.set54 | with_reducible apply Box.drew | (with_reducible apply Box.newAt; (try simp only [World.size_alloc, World.size_setCell, World.size_drew]); done) | with_reducible apply Box.alloc | (with_reducible apply Box.other; case hne => ((try simp only [World.size_alloc, World.size_setCell, World.size_drew]); omega))))
  have X2' : Box w3 (w.heap.size + 1) #[.int .u64 (limb 1 D), .int .u64 (limb 0 D)] := Box.call hb (by repeat (first | with_reducible assumption | with_reducible apply Box.set10 | with_reducible apply Box.set20 | with_reducible apply Box.set21 | with_reducible apply Box.set40 | with_reducible apply Box.set41 | with_reducible apply Box.set42 | with_reducible apply Box.set43 | with_reducible apply Box.set50 | with_reducible apply Box.set51 | with_reducible apply Box.set52 | with_reducible apply Box.set53 | with_reducible apply Box.set54 | with_reducible apply Box.drew | (with_reducible apply Box.newAt; (try simp only [World.size_alloc, World.size_setCell, World.size_drew]); done) | with_reducible apply Box.alloc | (with_reducible apply Box.other; case hne => ((try simp only [World.size_alloc, World.size_setCell, World.size_drew]); omega))))
  have hk' : Kept w.heap.size w w3 := Kept.step (by repeat (first | with_reducible exact hk | with_reducible exact Kept.refl _ | with_reducible refine Kept.alloc ?_ _ | with_reducible refine Kept.drew ?_ | with_reducible refine Kept.setCell ?_ (by simp only [World.size_alloc, World.size_setCell, World.size_drew]; omega) _)) hb
  clear hk hb
  clear X1 X1l1 X1l2 X1l3 X1f X10 X11
  clear X2 X2l1 X2l2 X2l3 X2f X20 X21
  clear X3 X3l1 X3l2 X3l3 X3f X30 X31
  have X1 := X1'
  clear X1'
  have X2 := X2'
  clear X2'
  have hk := hk'
  clear hk'
  have hz_w3 := hk.size
  have X1l := X1.lt
  have X1f := X1.free
  have X1l1 : w.heap.size < w3.heap.size + 1 := by omega
  have X1l2 : w.heap.size < w3.heap.size + 1 + 1 := by omega
  have X1l3 : w.heap.size < w3.heap.size + 1 + 1 + 1 := by omega
  have X10 := X1.cell 0 _ rfl
  have X11 := X1.cell 1 _ rfl
  have X2l := X2.lt
  have X2f := X2.free
  have X2l1 : w.heap.size + 1 < w3.heap.size + 1 := by omega
  have X2l2 : w.heap.size + 1 < w3.heap.size + 1 + 1 := by omega
  have X2l3 : w.heap.size + 1 < w3.heap.size + 1 + 1 + 1 := by omega
  have X20 := X2.cell 0 _ rfl
  have X21 := X2.cell 1 _ rfl
  go_upto_region 6 with fail
  refine wp_region_p 13 (fun W' => Kept w.heap.size w W' ∧ w3.heap.size + 1 ≤ W'.heap.size ∧ Box W' (w.heap.size) #[.int .u64 (limb 1 R), .int .u64 (limb 0 R)] ∧ Box W' (w.heap.size + 1) #[.int .u64 (limb 1 D), .int .u64 (limb 0 D)] ∧ Box W' (w3.heap.size) #[.int .u64 (limb 1 (farN R D ((n % 3000).toNat + (m % 3000).toNat))), .int .u64 (limb 0 (farN R D ((n % 3000).toNat + (m % 3000).toNat)))]) (fun W' => Kept w.heap.size w W' ∧ w3.heap.size + 1 ≤ W'.heap.size ∧ Box W' (w.heap.size) #[.int .u64 (limb 1 R), .int .u64 (limb 0 R)] ∧ Box W' (w.heap.size + 1) #[.int .u64 (limb 1 D), .int .u64 (limb 0 D)] ∧ Box W' (w3.heap.size) #[.int .u64 (limb 1 (farN R D ((n % 3000).toNat + (m % 3000).toNat))), .int .u64 (limb 0 (farN R D ((n % 3000).toNat + (m % 3000).toNat)))]) 1000 (w3.heap.size + 1) [.known (bitsV R), .known (.int .i64 (n % 3000)), .known (.int .i64 (m % 3000)), .known (.int .i64 (n % 3000 + m % 3000)), .known (bitsV D), .known (.tuple #[bitsV (farN R D ((n % 3000).toNat + (m % 3000).toNat)), .bool (oddF R D ((n % 3000).toNat + (m % 3000).toNat)), .bool true]), .known (.tuple #[bitsV (farN R D ((n % 3000).toNat + (m % 3000).toNat)), .bool (oddF R D ((n % 3000).toNat + (m % 3000).toNat)), .bool true]), .known (bitsV (farN R D ((n % 3000).toNat + (m % 3000).toNat))), .known (.bool (oddF R D ((n % 3000).toNat + (m % 3000).toNat))), .known (.bool true), .var #[.int .u64 0, .int .u64 0] 11 [.int .u64 (limb 1 (farN R D ((n % 3000).toNat + (m % 3000).toNat))), .int .u64 (limb 0 (farN R D ((n % 3000).toNat + (m % 3000).toNat)))], .put 10, .known (.bool (oddF R D ((n % 3000).toNat + (m % 3000).toNat)))] (by kernel_rfl) (by kernel_rfl) (fun W W' h hb => ⟨h.1.step hb, Nat.le_trans (h.2.1) hb.size, Box.call hb (h.2.2.1), Box.call hb (h.2.2.2.1), Box.call hb (h.2.2.2.2)⟩) (fun W W' h hb => ⟨h.1.step hb, Nat.le_trans (h.2.1) hb.size, Box.call hb (h.2.2.1), Box.call hb (h.2.2.2.1), Box.call hb (h.2.2.2.2)⟩) (no_out (of_decide_eq_true (by kernel_rfl))) (.inr (fun W' b i v hb h => ⟨h.1.setCell (p := ⟨b, i, none⟩) (by simp only []; omega) v, (by rw [World.size_setCell]; exact h.2.1), (h.2.2.1).other (by omega), (h.2.2.2.1).other (by omega), (h.2.2.2.2).other (by omega)⟩)) (.inr (fun W' b i v hb h => ⟨h.1.setCell (p := ⟨b, i, none⟩) (by simp only []; omega) v, (by rw [World.size_setCell]; exact h.2.1), (h.2.2.1).other (by omega), (h.2.2.2.1).other (by omega), (h.2.2.2.2).other (by omega)⟩)) (fun _ h => h.2.1) (fun _ h => h.2.1) (⟨(by repeat (first | with_reducible exact hk | with_reducible exact Kept.refl _ | with_reducible refine Kept.alloc ?_ _ | with_reducible refine Kept.drew ?_ | with_reducible refine Kept.setCell ?_ (by simp only [World.size_alloc, World.size_setCell, World.size_drew]; omega) _)), (by (try simp only [World.size_alloc, World.size_setCell, World.size_drew]); omega), (by repeat (first | with_reducible assumption | with_reducible apply Box.set10 | with_reducible apply Box.set20 | with_reducible apply Box.set21 | with_reducible apply Box.set40 | with_reducible apply Box.set41 | with_reducible apply Box.set42 | with_reducible apply Box.set43 | with_reducible apply Box.set50 | with_reducible apply Box.set51 | with_reducible apply Box.set52 | with_reducible apply Box.set53 | with_reducible apply Box.set54 | with_reducible apply Box.drew | (with_reducible apply Box.newAt; (try simp only [World.size_alloc, World.size_setCell, World.size_drew]); done) | with_reducible apply Box.alloc | (with_reducible apply Box.other; case hne => ((try simp only [World.size_alloc, World.size_setCell, World.size_drew]); omega)))), (by repeat (first | with_reducible assumption | with_reducible apply Box.set10 | with_reducible apply Box.set20 | with_reducible apply Box.set21 | with_reducible apply Box.set40 | with_reducible apply Box.set41 | with_reducible apply Box.set42 | with_reducible apply Box.set43 | with_reducible apply Box.set50 | with_reducible apply Box.set51 | with_reducible apply Box.set52 | with_reducible apply Box.set53 | with_reducible apply Box.set54 | with_reducible apply Box.drew | (with_reducible apply Box.newAt; (try simp only [World.size_alloc, World.size_setCell, World.size_drew]); done) | with_reducible apply Box.alloc | (with_reducible apply Box.other; case hne => ((try simp only [World.size_alloc, World.size_setCell, World.size_drew]); omega)))), (by repeat (first | with_reducible assumption | with_reducible apply Box.set10 | with_reducible apply Box.set20 | with_reducible apply Box.set21 | with_reducible apply Box.set40 | with_reducible apply Box.set41 | with_reducible apply Box.set42 | with_reducible apply Box.set43 | with_reducible apply Box.set50 | with_reducible apply Box.set51 | with_reducible apply Box.set52 | with_reducible apply Box.set53 | with_reducible apply Box.set54 | with_reducible apply Box.drew | (with_reducible apply Box.newAt; (try simp only [World.size_alloc, World.size_setCell, World.size_drew]); done) | with_reducible apply Box.alloc | (with_reducible apply Box.other; case hne => ((try simp only [World.size_alloc, World.size_setCell, World.size_drew]); omega))))⟩) ?_
  clear hk
  clear X1 X1l1 X1l2 X1l3 X1f X10 X11
  clear X2 X2l1 X2l2 X2l3 X2f X20 X21
  intro ρ
  simp only [List.take_succ_cons, List.take_zero, List.drop_succ_cons, List.drop_zero]
  refine ⟨?_, ?_⟩
  · as_aux_lemma =>
    intro y_ hS_ hD
    have hS := hS_ (by rfl)
    have Q := (hS.2.2.1).cell
    have q0 := Q 0 _ rfl
    have q1 := Q 1 _ rfl
    clear Q hS hS_ hD
    refine s_gen (V := bitsV R) [.pointer (some ⟨w.heap.size, 0, none⟩)] (by kernel_rfl) (by kernel_rfl) (by kernel_rfl) ?_
    intro r_ hr_
    have o0_ : r_ (.tmp 4) = .pointer (some ⟨w.heap.size, 0, none⟩) := op_at hr_ 0 (by kernel_rfl) (by kernel_rfl)
    clear hr_
    go_simp; first | done | with_reducible rfl
  simp only [Act.put, planVG, List.setIfInBounds_toArray, List.set_cons_zero, List.set_cons_succ, List.getElem?_cons_zero, List.getElem?_cons_succ]
  refine ⟨?_, ?_⟩
  · as_aux_lemma =>
    intro y_ hS_ hD
    clear hS_ hD
    refine s_gen (V := .int .i64 (n % 3000)) [.int .i64 (n % 3000)] (by kernel_rfl) (by kernel_rfl) (by kernel_rfl) ?_
    intro r_ hr_
    have o0_ : r_ (.tmp 9) = .int .i64 (n % 3000) := op_at hr_ 0 (by kernel_rfl) (by kernel_rfl)
    clear hr_
    go_simp; first | done | with_reducible rfl
  simp only [Act.put, planVG, List.setIfInBounds_toArray, List.set_cons_zero, List.set_cons_succ, List.getElem?_cons_zero, List.getElem?_cons_succ]
  refine ⟨?_, ?_⟩
  · as_aux_lemma =>
    intro y_ hS_ hD
    clear hS_ hD
    refine s_gen (V := .int .i64 (m % 3000)) [.int .i64 (m % 3000)] (by kernel_rfl) (by kernel_rfl) (by kernel_rfl) ?_
    intro r_ hr_
    have o0_ : r_ (.tmp 10) = .int .i64 (m % 3000) := op_at hr_ 0 (by kernel_rfl) (by kernel_rfl)
    clear hr_
    go_simp; first | done | with_reducible rfl
  simp only [Act.put, planVG, List.setIfInBounds_toArray, List.set_cons_zero, List.set_cons_succ, List.getElem?_cons_zero, List.getElem?_cons_succ]
  refine ⟨?_, ?_⟩
  · as_aux_lemma =>
    intro y_ hS_ hD
    clear hS_ hD
    refine s_gen (V := .int .i64 (n % 3000 + m % 3000)) [.int .i64 (n % 3000), .int .i64 (m % 3000)] (by kernel_rfl) (by kernel_rfl) (by kernel_rfl) ?_
    intro r_ hr_
    have o0_ : r_ (.tmp 59) = .int .i64 (n % 3000) := op_at hr_ 0 (by kernel_rfl) (by kernel_rfl)
    have o1_ : r_ (.tmp 60) = .int .i64 (m % 3000) := op_at hr_ 1 (by kernel_rfl) (by kernel_rfl)
    clear hr_
    go_simp; first | done | with_reducible rfl
  simp only [Act.put, planVG, List.setIfInBounds_toArray, List.set_cons_zero, List.set_cons_succ, List.getElem?_cons_zero, List.getElem?_cons_succ]
  refine ⟨?_, ?_⟩
  · as_aux_lemma =>
    intro y_ hS_ hD
    have hS := hS_ (by rfl)
    have Q := (hS.2.2.2.1).cell
    have q0 := Q 0 _ rfl
    have q1 := Q 1 _ rfl
    clear Q hS hS_ hD
    refine s_gen (V := bitsV D) [.pointer (some ⟨w.heap.size + 1, 0, none⟩)] (by kernel_rfl) (by kernel_rfl) (by kernel_rfl) ?_
    intro r_ hr_
    have o0_ : r_ (.tmp 7) = .pointer (some ⟨w.heap.size + 1, 0, none⟩) := op_at hr_ 0 (by kernel_rfl) (by kernel_rfl)
    clear hr_
    go_simp; first | done | with_reducible rfl
  simp only [Act.put, planVG, List.setIfInBounds_toArray, List.set_cons_zero, List.set_cons_succ, List.getElem?_cons_zero, List.getElem?_cons_succ]
  refine ⟨?_, ?_⟩
  · as_aux_lemma =>
    intro y_ hS_ hD
    try clear hS
    clear hS_ hD
    refine s_gcall (V := .tuple #[bitsV (farN R D ((n % 3000).toNat + (m % 3000).toNat)), .bool (oddF R D ((n % 3000).toNat + (m % 3000).toNat)), .bool true]) [.func (.func 38) #[] #[], bitsV R, .int .i64 (n % 3000 + m % 3000), bitsV D] ?_ ?_ (by kernel_rfl) (by kernel_rfl) (by kernel_rfl) ?_ ?_
    rotate_left 2
    · intro r_ hr_
      have o0_ : r_ (.func 38) = .func (.func 38) #[] #[] := op_at hr_ 0 (by kernel_rfl) (by kernel_rfl)
      have o1_ : r_ (.tmp 58) = bitsV R := op_at hr_ 1 (by kernel_rfl) (by kernel_rfl)
      have o2_ : r_ (.tmp 61) = .int .i64 (n % 3000 + m % 3000) := op_at hr_ 2 (by kernel_rfl) (by kernel_rfl)
      have o3_ : r_ (.tmp 62) = bitsV D := op_at hr_ 3 (by kernel_rfl) (by kernel_rfl)
      clear hr_
      go_simp; first | done | with_reducible rfl | (constructor <;> with_reducible rfl)
    · refine Mod_at (IsBits.of hR) (IsBits.of hD) h ((n % 3000).toNat + (m % 3000).toNat) (z := n % 3000 + m % 3000) (by omega) (by omega) _
  simp only [Act.put, planVG, List.setIfInBounds_toArray, List.set_cons_zero, List.set_cons_succ, List.getElem?_cons_zero, List.getElem?_cons_succ]
  refine ⟨?_, ?_⟩
  · as_aux_lemma =>
    intro y_ hS_ hD
    clear hS_ hD
    refine s_gen (V := .tuple #[bitsV (farN R D ((n % 3000).toNat + (m % 3000).toNat)), .bool (oddF R D ((n % 3000).toNat + (m % 3000).toNat)), .bool true]) [.tuple #[bitsV (farN R D ((n % 3000).toNat + (m % 3000).toNat)), .bool (oddF R D ((n % 3000).toNat + (m % 3000).toNat)), .bool true]] (by kernel_rfl) (by kernel_rfl) (by kernel_rfl) ?_
    intro r_ hr_
    have o0_ : r_ (.tmp 63) = .tuple #[bitsV (farN R D ((n % 3000).toNat + (m % 3000).toNat)), .bool (oddF R D ((n % 3000).toNat + (m % 3000).toNat)), .bool true] := op_at hr_ 0 (by kernel_rfl) (by kernel_rfl)
    clear hr_
    go_simp; first | done | with_reducible rfl
  simp only [Act.put, planVG, List.setIfInBounds_toArray, List.set_cons_zero, List.set_cons_succ, List.getElem?_cons_zero, List.getElem?_cons_succ]
  refine ⟨?_, ?_⟩
  · as_aux_lemma =>
    intro y_ hS_ hD
    clear hS_ hD
    refine s_gen (V := bitsV (farN R D ((n % 3000).toNat + (m % 3000).toNat))) [.tuple #[bitsV (farN R D ((n % 3000).toNat + (m % 3000).toNat)), .bool (oddF R D ((n % 3000).toNat + (m % 3000).toNat)), .bool true]] (by kernel_rfl) (by kernel_rfl) (by kernel_rfl) ?_
    intro r_ hr_
    have o0_ : r_ (.tmp 57) = .tuple #[bitsV (farN R D ((n % 3000).toNat + (m % 3000).toNat)), .bool (oddF R D ((n % 3000).toNat + (m % 3000).toNat)), .bool true] := op_at hr_ 0 (by kernel_rfl) (by kernel_rfl)
    clear hr_
    go_simp; first | done | with_reducible rfl
  simp only [Act.put, planVG, List.setIfInBounds_toArray, List.set_cons_zero, List.set_cons_succ, List.getElem?_cons_zero, List.getElem?_cons_succ]
  refine ⟨?_, ?_⟩
  · as_aux_lemma =>
    intro y_ hS_ hD
    clear hS_ hD
    refine s_gen (V := .bool (oddF R D ((n % 3000).toNat + (m % 3000).toNat))) [.tuple #[bitsV (farN R D ((n % 3000).toNat + (m % 3000).toNat)), .bool (oddF R D ((n % 3000).toNat + (m % 3000).toNat)), .bool true]] (by kernel_rfl) (by kernel_rfl) (by kernel_rfl) ?_
    intro r_ hr_
    have o0_ : r_ (.tmp 57) = .tuple #[bitsV (farN R D ((n % 3000).toNat + (m % 3000).toNat)), .bool (oddF R D ((n % 3000).toNat + (m % 3000).toNat)), .bool true] := op_at hr_ 0 (by kernel_rfl) (by kernel_rfl)
    clear hr_
    go_simp; first | done | with_reducible rfl
  simp only [Act.put, planVG, List.setIfInBounds_toArray, List.set_cons_zero, List.set_cons_succ, List.getElem?_cons_zero, List.getElem?_cons_succ]
  refine ⟨?_, ?_⟩
  · as_aux_lemma =>
    intro y_ hS_ hD
    clear hS_ hD
    refine s_gen (V := .bool true) [.tuple #[bitsV (farN R D ((n % 3000).toNat + (m % 3000).toNat)), .bool (oddF R D ((n % 3000).toNat + (m % 3000).toNat)), .bool true]] (by kernel_rfl) (by kernel_rfl) (by kernel_rfl) ?_
    intro r_ hr_
    have o0_ : r_ (.tmp 57) = .tuple #[bitsV (farN R D ((n % 3000).toNat + (m % 3000).toNat)), .bool (oddF R D ((n % 3000).toNat + (m % 3000).toNat)), .bool true] := op_at hr_ 0 (by kernel_rfl) (by kernel_rfl)
    clear hr_
    go_simp; first | done | with_reducible rfl
  simp only [Act.put, planVG, List.setIfInBounds_toArray, List.set_cons_zero, List.set_cons_succ, List.getElem?_cons_zero, List.getElem?_cons_succ]
  refine ⟨?_, ?_⟩
  · as_aux_lemma =>
    intro y_ hS_ hD
    clear hS_ hD
    refine s_alloc (by rfl) (by rfl) ?_
    simp only [allocTy]
    go_simp; first | done | with_reducible rfl | rfl
  simp only [Act.put, planVG, List.setIfInBounds_toArray, List.set_cons_zero, List.set_cons_succ, List.getElem?_cons_zero, List.getElem?_cons_succ]
  refine ⟨?_, ?_⟩
  · as_aux_lemma =>
    intro y_ hS_ hD
    have hS := hS_ (by rfl)
    clear hS hS_ hD
    refine s_gput (j := 10) (Z := #[.int .u64 0, .int .u64 0]) (V := [.int .u64 (limb 1 (farN R D ((n % 3000).toNat + (m % 3000).toNat))), .int .u64 (limb 0 (farN R D ((n % 3000).toNat + (m % 3000).toNat)))]) [ρ 10, bitsV (farN R D ((n % 3000).toNat + (m % 3000).toNat))] (by kernel_rfl) (by kernel_rfl) (by kernel_rfl) (by kernel_rfl) ?_
    intro r_ b hr_ hb hB F
    have o0_ : r_ (.tmp 17) = ρ 10 := op_at hr_ 0 (by kernel_rfl) (by kernel_rfl)
    have o1_ : r_ (.tmp 64) = bitsV (farN R D ((n % 3000).toNat + (m % 3000).toNat)) := op_at hr_ 1 (by kernel_rfl) (by kernel_rfl)
    clear hr_
    rw [hb] at o0_
    have Q := F.cell
    have q0 := Q 0 _ rfl
    have q1 := Q 1 _ rfl
    have Qf := F.free
    have Ql := F.lt
    clear Q F
    simp only [putCells]
    go_simp; first | done | with_reducible rfl | rfl
  simp only [Act.put, planVG, List.setIfInBounds_toArray, List.set_cons_zero, List.set_cons_succ, List.getElem?_cons_zero, List.getElem?_cons_succ]
  refine ⟨?_, ?_⟩
  · as_aux_lemma =>
    intro y_ hS_ hD
    clear hS_ hD
    refine s_gen (V := .bool (oddF R D ((n % 3000).toNat + (m % 3000).toNat))) [.bool (oddF R D ((n % 3000).toNat + (m % 3000).toNat))] (by kernel_rfl) (by kernel_rfl) (by kernel_rfl) ?_
    intro r_ hr_
    have o0_ : r_ (.tmp 65) = .bool (oddF R D ((n % 3000).toNat + (m % 3000).toNat)) := op_at hr_ 0 (by kernel_rfl) (by kernel_rfl)
    clear hr_
    go_simp; first | done | with_reducible rfl
  simp only [Act.put, planVG, List.setIfInBounds_toArray, List.set_cons_zero, List.set_cons_succ, List.getElem?_cons_zero, List.getElem?_cons_succ]
  as_aux_lemma =>
    intro w4 hS hF hD_
    change wpList _ _ _ _ _ _
    replace hS := sg_no (by decide) hS
    obtain ⟨hk, hZ4, X1, X2, X4⟩ := hS
    obtain ⟨v6_10, e_v6_10, hv6_10, Bv6_10⟩ : ∃ b, ρ 10 = .pointer (some ⟨b, 0, none⟩) ∧ w3.heap.size + 1 ≤ b ∧ Box w4 b #[.int .u64 (limb 1 (farN R D ((n % 3000).toNat + (m % 3000).toNat))), .int .u64 (limb 0 (farN R D ((n % 3000).toNat + (m % 3000).toNat)))] := by
      obtain ⟨b, h1, h2, h3⟩ := hF 10 (by decide)
      exact ⟨b, h1, h2, h3.lt, h3.cell, h3.free⟩
    clear hF hD_
    simp only [e_v6_10]
    clear e_v6_10
    clear ρ
    have hz_w4 := hk.size
    have X1l := X1.lt
    have X1f := X1.free
    have X1l1 : w.heap.size < w4.heap.size + 1 := by omega
    have X1l2 : w.heap.size < w4.heap.size + 1 + 1 := by omega
    have X1l3 : w.heap.size < w4.heap.size + 1 + 1 + 1 := by omega
    have X10 := X1.cell 0 _ rfl
    have X11 := X1.cell 1 _ rfl
    have X2l := X2.lt
    have X2f := X2.free
    have X2l1 : w.heap.size + 1 < w4.heap.size + 1 := by omega
    have X2l2 : w.heap.size + 1 < w4.heap.size + 1 + 1 := by omega
    have X2l3 : w.heap.size + 1 < w4.heap.size + 1 + 1 + 1 := by omega
    have X20 := X2.cell 0 _ rfl
    have X21 := X2.cell 1 _ rfl
    have X4l := X4.lt
    have X4f := X4.free
    have X4l1 : w3.heap.size < w4.heap.size + 1 := by omega
    have X4l2 : w3.heap.size < w4.heap.size + 1 + 1 := by omega
    have X4l3 : w3.heap.size < w4.heap.size + 1 + 1 + 1 := by omega
    have X40 := X4.cell 0 _ rfl
    have X41 := X4.cell 1 _ rfl
    have Bv6_10l := Bv6_10.lt
    have Bv6_10f := Bv6_10.free
    have Bv6_10l1 : v6_10 < w4.heap.size + 1 := by omega
    have Bv6_10l2 : v6_10 < w4.heap.size + 1 + 1 := by omega
    have Bv6_10l3 : v6_10 < w4.heap.size + 1 + 1 + 1 := by omega
    have Bv6_100 := Bv6_10.cell 0 _ rfl
    have Bv6_101 := Bv6_10.cell 1 _ rfl
    go_wp2
    refine wp_region_g 14 (fun W' => Kept w.heap.size w W' ∧ w4.heap.size ≤ W'.heap.size ∧ Box W' (w.heap.size) #[.int .u64 (limb 1 R), .int .u64 (limb 0 R)] ∧ Box W' (w.heap.size + 1) #[.int .u64 (limb 1 D), .int .u64 (limb 0 D)]) (fun W' => Kept w.heap.size w W' ∧ w4.heap.size ≤ W'.heap.size ∧ Box W' (w.heap.size) #[.int .u64 (limb 1 R), .int .u64 (limb 0 R)] ∧ Box W' (w.heap.size + 1) #[.int .u64 (limb 1 D), .int .u64 (limb 0 D)]) 1000 (w4.heap.size) [.known (bitsV R), .known (wideV R), .known (.int .i64 (n % 3000)), .known (wideV (left256 R (n % 3000))), .known (bitsV D), .known (.tuple #[wideV (divN (left256 R (n % 3000)) D), bitsV (farN R D (n % 3000).toNat), .bool true]), .known (.tuple #[wideV (divN (left256 R (n % 3000)) D), bitsV (farN R D (n % 3000).toNat), .bool true]), .known (wideV (divN (left256 R (n % 3000)) D)), .known (bitsV (farN R D (n % 3000).toNat)), .known (.bool true), .var #[.int .u64 0, .int .u64 0, .int .u64 0, .int .u64 0] 12 [.int .u64 (limb 0 (divN (left256 R (n % 3000)) D)), .int .u64 (limb 1 (divN (left256 R (n % 3000)) D)), .int .u64 (limb 2 (divN (left256 R (n % 3000)) D)), .int .u64 (limb 3 (divN (left256 R (n % 3000)) D))], .var #[.int .u64 0, .int .u64 0] 13 [.int .u64 (limb 1 (farN R D (n % 3000).toNat)), .int .u64 (limb 0 (farN R D (n % 3000).toNat))], .put 10, .put 11] (by kernel_rfl) (by kernel_rfl) (fun W W' h hb => ⟨h.1.step hb, Nat.le_trans (h.2.1) hb.size, Box.call hb (h.2.2.1), Box.call hb (h.2.2.2)⟩) (fun W W' h hb => ⟨h.1.step hb, Nat.le_trans (h.2.1) hb.size, Box.call hb (h.2.2.1), Box.call hb (h.2.2.2)⟩) (no_out (of_decide_eq_true (by kernel_rfl))) (.inr (fun W' b i v hb h => ⟨h.1.setCell (p := ⟨b, i, none⟩) (by simp only []; omega) v, (by rw [World.size_setCell]; exact h.2.1), (h.2.2.1).other (by omega), (h.2.2.2).other (by omega)⟩)) (.inr (fun W' b i v hb h => ⟨h.1.setCell (p := ⟨b, i, none⟩) (by simp only []; omega) v, (by rw [World.size_setCell]; exact h.2.1), (h.2.2.1).other (by omega), (h.2.2.2).other (by omega)⟩)) (fun _ h => h.2.1) (fun _ h => h.2.1) (⟨(by repeat (first | with_reducible exact hk | with_reducible exact Kept.refl _ | with_reducible refine Kept.alloc ?_ _ | with_reducible refine Kept.drew ?_ | with_reducible refine Kept.setCell ?_ (by simp only [World.size_alloc, World.size_setCell, World.size_drew]; omega) _)), (by (try simp only [World.size_alloc, World.size_setCell, World.size_drew]); omega), (by repeat (first | with_reducible assumption | with_reducible apply Box.set10 | with_reducible apply Box.set20 | with_reducible apply Box.set21 | with_reducible apply Box.set40 | with_reducible apply Box.set41 | with_reducible apply Box.set42 | with_reducible apply Box.set43 | with_reducible apply Box.set50 | with_reducible apply Box.set51 | with_reducible apply Box.set52 | with_reducible apply Box.set53 | with_reducible apply Box.set54 | with_reducible apply Box.drew | (with_reducible apply Box.newAt; (try simp only [World.size_alloc, World.size_setCell, World.size_drew]); done) | with_reducible apply Box.alloc | (with_reducible apply Box.other; case hne => ((try simp only [World.size_alloc, World.size_setCell, World.size_drew]); omega)))), (by repeat (first | with_reducible assumption | with_reducible apply Box.set10 | with_reducible apply Box.set20 | with_reducible apply Box.set21 | with_reducible apply Box.set40 | with_reducible apply Box.set41 | with_reducible apply Box.set42 | with_reducible apply Box.set43 | with_reducible apply Box.set50 | with_reducible apply Box.set51 | with_reducible apply Box.set52 | with_reducible apply Box.set53 | with_reducible apply Box.set54 | with_reducible apply Box.drew | (with_reducible apply Box.newAt; (try simp only [World.size_alloc, World.size_setCell, World.size_drew]); done) | with_reducible apply Box.alloc | (with_reducible apply Box.other; case hne => ((try simp only [World.size_alloc, World.size_setCell, World.size_drew]); omega))))⟩) ?_
    clear hk
    clear X1 X1l1 X1l2 X1l3 X1f X10 X11
    clear X2 X2l1 X2l2 X2l3 X2f X20 X21
    clear X4 X4l1 X4l2 X4l3 X4f X40 X41
    clear Bv6_10 Bv6_10l1 Bv6_10l2 Bv6_10l3 Bv6_10f Bv6_100 Bv6_101
    intro ρ
    simp only [List.take_succ_cons, List.take_zero, List.drop_succ_cons, List.drop_zero]
    refine ⟨?_, ?_⟩
    · as_aux_lemma =>
      intro y_ hS_ hD
      have hS := hS_ (by rfl)
      have Q := (hS.2.2.1).cell
      have q0 := Q 0 _ rfl
      have q1 := Q 1 _ rfl
      clear Q hS hS_ hD
      refine s_gen (V := bitsV R) [.pointer (some ⟨w.heap.size, 0, none⟩)] (by kernel_rfl) (by kernel_rfl) (by kernel_rfl) ?_
      intro r_ hr_
      have o0_ : r_ (.tmp 4) = .pointer (some ⟨w.heap.size, 0, none⟩) := op_at hr_ 0 (by kernel_rfl) (by kernel_rfl)
      clear hr_
      go_simp; first | done | with_reducible rfl
    simp only [Act.put, planVG, List.setIfInBounds_toArray, List.set_cons_zero, List.set_cons_succ, List.getElem?_cons_zero, List.getElem?_cons_succ]
    refine ⟨?_, ?_⟩
    · as_aux_lemma =>
      intro y_ hS_ hD
      try clear hS
      clear hS_ hD
      refine s_gcall (V := wideV R) [.func (.func 44) #[] #[], bitsV R] ?_ ?_ (by kernel_rfl) (by kernel_rfl) (by kernel_rfl) ?_ ?_
      rotate_left 2
      · intro r_ hr_
        have o0_ : r_ (.func 44) = .func (.func 44) #[] #[] := op_at hr_ 0 (by kernel_rfl) (by kernel_rfl)
        have o1_ : r_ (.tmp 95) = bitsV R := op_at hr_ 1 (by kernel_rfl) (by kernel_rfl)
        clear hr_
        go_simp; first | done | with_reducible rfl | (constructor <;> with_reducible rfl)
      · refine Of_at (IsBits.of hR) _
    simp only [Act.put, planVG, List.setIfInBounds_toArray, List.set_cons_zero, List.set_cons_succ, List.getElem?_cons_zero, List.getElem?_cons_succ]
    refine ⟨?_, ?_⟩
    · as_aux_lemma =>
      intro y_ hS_ hD
      clear hS_ hD
      refine s_gen (V := .int .i64 (n % 3000)) [.int .i64 (n % 3000)] (by kernel_rfl) (by kernel_rfl) (by kernel_rfl) ?_
      intro r_ hr_
      have o0_ : r_ (.tmp 9) = .int .i64 (n % 3000) := op_at hr_ 0 (by kernel_rfl) (by kernel_rfl)
      clear hr_
      go_simp; first | done | with_reducible rfl
    simp only [Act.put, planVG, List.setIfInBounds_toArray, List.set_cons_zero, List.set_cons_succ, List.getElem?_cons_zero, List.getElem?_cons_succ]
    refine ⟨?_, ?_⟩
    · as_aux_lemma =>
      intro y_ hS_ hD
      try clear hS
      clear hS_ hD
      refine s_gcall (V := wideV (left256 R (n % 3000))) [.func (.func 43) #[] #[], wideV R, .int .i64 (n % 3000)] ?_ ?_ (by kernel_rfl) (by kernel_rfl) (by kernel_rfl) ?_ ?_
      rotate_left 2
      · intro r_ hr_
        have o0_ : r_ (.func 43) = .func (.func 43) #[] #[] := op_at hr_ 0 (by kernel_rfl) (by kernel_rfl)
        have o1_ : r_ (.tmp 96) = wideV R := op_at hr_ 1 (by kernel_rfl) (by kernel_rfl)
        have o2_ : r_ (.tmp 97) = .int .i64 (n % 3000) := op_at hr_ 2 (by kernel_rfl) (by kernel_rfl)
        clear hr_
        go_simp; first | done | with_reducible rfl | (constructor <;> with_reducible rfl)
      · refine WideLeft_at (IsWide.of (w128_256 (IsBits.of hR).w)) (n % 3000) (by omega) (by omega) _
    simp only [Act.put, planVG, List.setIfInBounds_toArray, List.set_cons_zero, List.set_cons_succ, List.getElem?_cons_zero, List.getElem?_cons_succ]
    refine ⟨?_, ?_⟩
    · as_aux_lemma =>
      intro y_ hS_ hD
      have hS := hS_ (by rfl)
      have Q := (hS.2.2.2).cell
      have q0 := Q 0 _ rfl
      have q1 := Q 1 _ rfl
      clear Q hS hS_ hD
      refine s_gen (V := bitsV D) [.pointer (some ⟨w.heap.size + 1, 0, none⟩)] (by kernel_rfl) (by kernel_rfl) (by kernel_rfl) ?_
      intro r_ hr_
      have o0_ : r_ (.tmp 7) = .pointer (some ⟨w.heap.size + 1, 0, none⟩) := op_at hr_ 0 (by kernel_rfl) (by kernel_rfl)
      clear hr_
      go_simp; first | done | with_reducible rfl
    simp only [Act.put, planVG, List.setIfInBounds_toArray, List.set_cons_zero, List.set_cons_succ, List.getElem?_cons_zero, List.getElem?_cons_succ]
    refine ⟨?_, ?_⟩
    · as_aux_lemma =>
      intro y_ hS_ hD
      try clear hS
      clear hS_ hD
      refine s_gcall (V := .tuple #[wideV (divN (left256 R (n % 3000)) D), bitsV (farN R D (n % 3000).toNat), .bool true]) [.func (.func 34) #[] #[], wideV (left256 R (n % 3000)), bitsV D] ?_ ?_ (by kernel_rfl) (by kernel_rfl) (by kernel_rfl) ?_ ?_
      rotate_left 2
      · intro r_ hr_
        have o0_ : r_ (.func 34) = .func (.func 34) #[] #[] := op_at hr_ 0 (by kernel_rfl) (by kernel_rfl)
        have o1_ : r_ (.tmp 98) = wideV (left256 R (n % 3000)) := op_at hr_ 1 (by kernel_rfl) (by kernel_rfl)
        have o2_ : r_ (.tmp 99) = bitsV D := op_at hr_ 2 (by kernel_rfl) (by kernel_rfl)
        clear hr_
        go_simp; first | done | with_reducible rfl | (constructor <;> with_reducible rfl)
      · refine calls_to (V := .tuple #[wideV (divN (left256 R (n % 3000)) D), bitsV (farN R D (n % 3000).toNat), .bool true]) (Div_at (IsWide.of (left_w _ _)) (IsBits.of hD) HP _) (by rw [EL.out])
    simp only [Act.put, planVG, List.setIfInBounds_toArray, List.set_cons_zero, List.set_cons_succ, List.getElem?_cons_zero, List.getElem?_cons_succ]
    refine ⟨?_, ?_⟩
    · as_aux_lemma =>
      intro y_ hS_ hD
      clear hS_ hD
      refine s_gen (V := .tuple #[wideV (divN (left256 R (n % 3000)) D), bitsV (farN R D (n % 3000).toNat), .bool true]) [.tuple #[wideV (divN (left256 R (n % 3000)) D), bitsV (farN R D (n % 3000).toNat), .bool true]] (by kernel_rfl) (by kernel_rfl) (by kernel_rfl) ?_
      intro r_ hr_
      have o0_ : r_ (.tmp 100) = .tuple #[wideV (divN (left256 R (n % 3000)) D), bitsV (farN R D (n % 3000).toNat), .bool true] := op_at hr_ 0 (by kernel_rfl) (by kernel_rfl)
      clear hr_
      go_simp; first | done | with_reducible rfl
    simp only [Act.put, planVG, List.setIfInBounds_toArray, List.set_cons_zero, List.set_cons_succ, List.getElem?_cons_zero, List.getElem?_cons_succ]
    refine ⟨?_, ?_⟩
    · as_aux_lemma =>
      intro y_ hS_ hD
      clear hS_ hD
      refine s_gen (V := wideV (divN (left256 R (n % 3000)) D)) [.tuple #[wideV (divN (left256 R (n % 3000)) D), bitsV (farN R D (n % 3000).toNat), .bool true]] (by kernel_rfl) (by kernel_rfl) (by kernel_rfl) ?_
      intro r_ hr_
      have o0_ : r_ (.tmp 94) = .tuple #[wideV (divN (left256 R (n % 3000)) D), bitsV (farN R D (n % 3000).toNat), .bool true] := op_at hr_ 0 (by kernel_rfl) (by kernel_rfl)
      clear hr_
      go_simp; first | done | with_reducible rfl
    simp only [Act.put, planVG, List.setIfInBounds_toArray, List.set_cons_zero, List.set_cons_succ, List.getElem?_cons_zero, List.getElem?_cons_succ]
    refine ⟨?_, ?_⟩
    · as_aux_lemma =>
      intro y_ hS_ hD
      clear hS_ hD
      refine s_gen (V := bitsV (farN R D (n % 3000).toNat)) [.tuple #[wideV (divN (left256 R (n % 3000)) D), bitsV (farN R D (n % 3000).toNat), .bool true]] (by kernel_rfl) (by kernel_rfl) (by kernel_rfl) ?_
      intro r_ hr_
      have o0_ : r_ (.tmp 94) = .tuple #[wideV (divN (left256 R (n % 3000)) D), bitsV (farN R D (n % 3000).toNat), .bool true] := op_at hr_ 0 (by kernel_rfl) (by kernel_rfl)
      clear hr_
      go_simp; first | done | with_reducible rfl
    simp only [Act.put, planVG, List.setIfInBounds_toArray, List.set_cons_zero, List.set_cons_succ, List.getElem?_cons_zero, List.getElem?_cons_succ]
    refine ⟨?_, ?_⟩
    · as_aux_lemma =>
      intro y_ hS_ hD
      clear hS_ hD
      refine s_gen (V := .bool true) [.tuple #[wideV (divN (left256 R (n % 3000)) D), bitsV (farN R D (n % 3000).toNat), .bool true]] (by kernel_rfl) (by kernel_rfl) (by kernel_rfl) ?_
      intro r_ hr_
      have o0_ : r_ (.tmp 94) = .tuple #[wideV (divN (left256 R (n % 3000)) D), bitsV (farN R D (n % 3000).toNat), .bool true] := op_at hr_ 0 (by kernel_rfl) (by kernel_rfl)
      clear hr_
      go_simp; first | done | with_reducible rfl
    simp only [Act.put, planVG, List.setIfInBounds_toArray, List.set_cons_zero, List.set_cons_succ, List.getElem?_cons_zero, List.getElem?_cons_succ]
    refine ⟨?_, ?_⟩
    · as_aux_lemma =>
      intro y_ hS_ hD
      clear hS_ hD
      refine s_alloc (by rfl) (by rfl) ?_
      simp only [allocTy]
      go_simp; first | done | with_reducible rfl | rfl
    simp only [Act.put, planVG, List.setIfInBounds_toArray, List.set_cons_zero, List.set_cons_succ, List.getElem?_cons_zero, List.getElem?_cons_succ]
    refine ⟨?_, ?_⟩
    · as_aux_lemma =>
      intro y_ hS_ hD
      clear hS_ hD
      refine s_alloc (by rfl) (by rfl) ?_
      simp only [allocTy]
      go_simp; first | done | with_reducible rfl | rfl
    simp only [Act.put, planVG, List.setIfInBounds_toArray, List.set_cons_zero, List.set_cons_succ, List.getElem?_cons_zero, List.getElem?_cons_succ]
    refine ⟨?_, ?_⟩
    · as_aux_lemma =>
      intro y_ hS_ hD
      have hS := hS_ (by rfl)
      clear hS hS_ hD
      refine s_gput (j := 10) (Z := #[.int .u64 0, .int .u64 0, .int .u64 0, .int .u64 0]) (V := [.int .u64 (limb 0 (divN (left256 R (n % 3000)) D)), .int .u64 (limb 1 (divN (left256 R (n % 3000)) D)), .int .u64 (limb 2 (divN (left256 R (n % 3000)) D)), .int .u64 (limb 3 (divN (left256 R (n % 3000)) D))]) [ρ 10, wideV (divN (left256 R (n % 3000)) D)] (by kernel_rfl) (by kernel_rfl) (by kernel_rfl) (by kernel_rfl) ?_
      intro r_ b hr_ hb hB F
      have o0_ : r_ (.tmp 20) = ρ 10 := op_at hr_ 0 (by kernel_rfl) (by kernel_rfl)
      have o1_ : r_ (.tmp 101) = wideV (divN (left256 R (n % 3000)) D) := op_at hr_ 1 (by kernel_rfl) (by kernel_rfl)
      clear hr_
      rw [hb] at o0_
      have Q := F.cell
      have q0 := Q 0 _ rfl
      have q1 := Q 1 _ rfl
      have q2 := Q 2 _ rfl
      have q3 := Q 3 _ rfl
      have Qf := F.free
      have Ql := F.lt
      clear Q F
      simp only [putCells]
      go_simp; first | done | with_reducible rfl | rfl
    simp only [Act.put, planVG, List.setIfInBounds_toArray, List.set_cons_zero, List.set_cons_succ, List.getElem?_cons_zero, List.getElem?_cons_succ]
    refine ⟨?_, ?_⟩
    · as_aux_lemma =>
      intro y_ hS_ hD
      have hS := hS_ (by rfl)
      clear hS hS_ hD
      refine s_gput (j := 11) (Z := #[.int .u64 0, .int .u64 0]) (V := [.int .u64 (limb 1 (farN R D (n % 3000).toNat)), .int .u64 (limb 0 (farN R D (n % 3000).toNat))]) [ρ 11, bitsV (farN R D (n % 3000).toNat)] (by kernel_rfl) (by kernel_rfl) (by kernel_rfl) (by kernel_rfl) ?_
      intro r_ b hr_ hb hB F
      have o0_ : r_ (.tmp 21) = ρ 11 := op_at hr_ 0 (by kernel_rfl) (by kernel_rfl)
      have o1_ : r_ (.tmp 102) = bitsV (farN R D (n % 3000).toNat) := op_at hr_ 1 (by kernel_rfl) (by kernel_rfl)
      clear hr_
      rw [hb] at o0_
      have Q := F.cell
      have q0 := Q 0 _ rfl
      have q1 := Q 1 _ rfl
      have Qf := F.free
      have Ql := F.lt
      clear Q F
      simp only [putCells]
      go_simp; first | done | with_reducible rfl | rfl
    simp only [Act.put, planVG, List.setIfInBounds_toArray, List.set_cons_zero, List.set_cons_succ, List.getElem?_cons_zero, List.getElem?_cons_succ]
    as_aux_lemma =>
      intro w5 hS hF hD_
      change wpList _ _ _ _ _ _
      replace hS := sg_no (by decide) hS
      obtain ⟨hk, hZ5, X1, X2⟩ := hS
      obtain ⟨v11_10, e_v11_10, hv11_10, Bv11_10⟩ : ∃ b, ρ 10 = .pointer (some ⟨b, 0, none⟩) ∧ w4.heap.size ≤ b ∧ Box w5 b #[.int .u64 (limb 0 (divN (left256 R (n % 3000)) D)), .int .u64 (limb 1 (divN (left256 R (n % 3000)) D)), .int .u64 (limb 2 (divN (left256 R (n % 3000)) D)), .int .u64 (limb 3 (divN (left256 R (n % 3000)) D))] := by
        obtain ⟨b, h1, h2, h3⟩ := hF 10 (by decide)
        exact ⟨b, h1, h2, h3.lt, h3.cell, h3.free⟩
      obtain ⟨v11_11, e_v11_11, hv11_11, Bv11_11⟩ : ∃ b, ρ 11 = .pointer (some ⟨b, 0, none⟩) ∧ w4.heap.size ≤ b ∧ Box w5 b #[.int .u64 (limb 1 (farN R D (n % 3000).toNat)), .int .u64 (limb 0 (farN R D (n % 3000).toNat))] := by
        obtain ⟨b, h1, h2, h3⟩ := hF 11 (by decide)
        exact ⟨b, h1, h2, h3.lt, h3.cell, h3.free⟩
      have nv11_10_v11_11 : ¬ v11_10 = v11_11 := fun h => hD_ 10 11 (by decide) (by decide) (by decide) (by rfl) (by rfl) (by rw [e_v11_10, e_v11_11, h])
      have nv11_11_v11_10 : ¬ v11_11 = v11_10 := fun h => nv11_10_v11_11 h.symm
      clear hF hD_
      simp only [e_v11_10]
      clear e_v11_10
      simp only [e_v11_11]
      clear e_v11_11
      clear ρ
      have hz_w5 := hk.size
      have X1l := X1.lt
      have X1f := X1.free
      have X1l1 : w.heap.size < w5.heap.size + 1 := by omega
      have X1l2 : w.heap.size < w5.heap.size + 1 + 1 := by omega
      have X1l3 : w.heap.size < w5.heap.size + 1 + 1 + 1 := by omega
      have X10 := X1.cell 0 _ rfl
      have X11 := X1.cell 1 _ rfl
      have X2l := X2.lt
      have X2f := X2.free
      have X2l1 : w.heap.size + 1 < w5.heap.size + 1 := by omega
      have X2l2 : w.heap.size + 1 < w5.heap.size + 1 + 1 := by omega
      have X2l3 : w.heap.size + 1 < w5.heap.size + 1 + 1 + 1 := by omega
      have X20 := X2.cell 0 _ rfl
      have X21 := X2.cell 1 _ rfl
      have Bv11_10l := Bv11_10.lt
      have Bv11_10f := Bv11_10.free
      have Bv11_10l1 : v11_10 < w5.heap.size + 1 := by omega
      have Bv11_10l2 : v11_10 < w5.heap.size + 1 + 1 := by omega
      have Bv11_10l3 : v11_10 < w5.heap.size + 1 + 1 + 1 := by omega
      have Bv11_100 := Bv11_10.cell 0 _ rfl
      have Bv11_101 := Bv11_10.cell 1 _ rfl
      have Bv11_102 := Bv11_10.cell 2 _ rfl
      have Bv11_103 := Bv11_10.cell 3 _ rfl
      have Bv11_11l := Bv11_11.lt
      have Bv11_11f := Bv11_11.free
      have Bv11_11l1 : v11_11 < w5.heap.size + 1 := by omega
      have Bv11_11l2 : v11_11 < w5.heap.size + 1 + 1 := by omega
      have Bv11_11l3 : v11_11 < w5.heap.size + 1 + 1 + 1 := by omega
      have Bv11_110 := Bv11_11.cell 0 _ rfl
      have Bv11_111 := Bv11_11.cell 1 _ rfl
      go_wp2_with fail
      (with_reducible refine (calls_to (V := .tuple #[bitsV (farN R D ((n % 3000).toNat)), .bool true, .bool true]) (Mod_at (IsBits.of hR) (IsBits.of hD) h ((n % 3000).toNat) (z := n % 3000) (by omega) (by omega) _) (by rw [OX.out])).mono ?_)
      rintro e w6 ⟨rfl, hb⟩
      have Bv11_10' : Box w6 (v11_10) #[.int .u64 (limb 0 (divN (left256 R (n % 3000)) D)), .int .u64 (limb 1 (divN (left256 R (n % 3000)) D)), .int .u64 (limb 2 (divN (left256 R (n % 3000)) D)), .int .u64 (limb 3 (divN (left256 R (n % 3000)) D))] := Box.call hb (by repeat (first | with_reducible assumption | with_reducible apply Box.set10 | with_reducible apply Box.set20 | with_reducible apply Box.set21 | with_reducible apply Box.set40 | with_reducible apply Box.set41 | with_reducible apply Box.set42 | with_reducible apply Box.set43 | with_reducible apply Box.set50 | with_reducible apply Box.set51 | with_reducible apply Box.set52 | with_reducible apply Box.set53 | with_reducible apply Box.set54 | with_reducible apply Box.drew | (with_reducible apply Box.newAt; (try simp only [World.size_alloc, World.size_setCell, World.size_drew]); done) | with_reducible apply Box.alloc | (with_reducible apply Box.other; case hne => ((try simp only [World.size_alloc, World.size_setCell, World.size_drew]); omega))))
      have Bv11_11' : Box w6 (v11_11) #[.int .u64 (limb 1 (farN R D (n % 3000).toNat)), .int .u64 (limb 0 (farN R D (n % 3000).toNat))] := Box.call hb (by repeat (first | with_reducible assumption | with_reducible apply Box.set10 | with_reducible apply Box.set20 | with_reducible apply Box.set21 | with_reducible apply Box.set40 | with_reducible apply Box.set41 | with_reducible apply Box.set42 | with_reducible apply Box.set43 | with_reducible apply Box.set50 | with_reducible apply Box.set51 | with_reducible apply Box.set52 | with_reducible apply Box.set53 | with_reducible apply Box.set54 | with_reducible apply Box.drew | (with_reducible apply Box.newAt; (try simp only [World.size_alloc, World.size_setCell, World.size_drew]); done) | with_reducible apply Box.alloc | (with_reducible apply Box.other; case hne => ((try simp only [World.size_alloc, World.size_setCell, World.size_drew]); omega))))
      have hk' : Kept w.heap.size w w6 := Kept.step (by repeat (first | with_reducible exact hk | with_reducible exact Kept.refl _ | with_reducible refine Kept.alloc ?_ _ | with_reducible refine Kept.drew ?_ | with_reducible refine Kept.setCell ?_ (by simp only [World.size_alloc, World.size_setCell, World.size_drew]; omega) _)) hb
      clear hk hb
      clear X1 X1l1 X1l2 X1l3 X1f X10 X11
      clear X2 X2l1 X2l2 X2l3 X2f X20 X21
      clear Bv11_10 Bv11_10l1 Bv11_10l2 Bv11_10l3 Bv11_10f Bv11_100 Bv11_101 Bv11_102 Bv11_103
      clear Bv11_11 Bv11_11l1 Bv11_11l2 Bv11_11l3 Bv11_11f Bv11_110 Bv11_111
      have Bv11_10 := Bv11_10'
      clear Bv11_10'
      have Bv11_11 := Bv11_11'
      clear Bv11_11'
      have hk := hk'
      clear hk'
      have hz_w6 := hk.size
      have Bv11_10l := Bv11_10.lt
      have Bv11_10f := Bv11_10.free
      have Bv11_10l1 : v11_10 < w6.heap.size + 1 := by omega
      have Bv11_10l2 : v11_10 < w6.heap.size + 1 + 1 := by omega
      have Bv11_10l3 : v11_10 < w6.heap.size + 1 + 1 + 1 := by omega
      have Bv11_100 := Bv11_10.cell 0 _ rfl
      have Bv11_101 := Bv11_10.cell 1 _ rfl
      have Bv11_102 := Bv11_10.cell 2 _ rfl
      have Bv11_103 := Bv11_10.cell 3 _ rfl
      have Bv11_11l := Bv11_11.lt
      have Bv11_11f := Bv11_11.free
      have Bv11_11l1 : v11_11 < w6.heap.size + 1 := by omega
      have Bv11_11l2 : v11_11 < w6.heap.size + 1 + 1 := by omega
      have Bv11_11l3 : v11_11 < w6.heap.size + 1 + 1 + 1 := by omega
      have Bv11_110 := Bv11_11.cell 0 _ rfl
      have Bv11_111 := Bv11_11.cell 1 _ rfl
      go_upto_region 13 with fail
      refine wp_region_p 19 (fun W' => Kept w.heap.size w W' ∧ w6.heap.size + 1 ≤ W'.heap.size ∧ Box W' (v11_10) #[.int .u64 (limb 0 (divN (left256 R (n % 3000)) D)), .int .u64 (limb 1 (divN (left256 R (n % 3000)) D)), .int .u64 (limb 2 (divN (left256 R (n % 3000)) D)), .int .u64 (limb 3 (divN (left256 R (n % 3000)) D))] ∧ Box W' (v11_11) #[.int .u64 (limb 1 (farN R D (n % 3000).toNat)), .int .u64 (limb 0 (farN R D (n % 3000).toNat))] ∧ Box W' (w6.heap.size) #[.int .u64 (limb 1 (farN R D ((n % 3000).toNat))), .int .u64 (limb 0 (farN R D ((n % 3000).toNat)))]) (fun W' => Kept w.heap.size w W' ∧ w6.heap.size + 1 ≤ W'.heap.size ∧ Box W' (v11_10) #[.int .u64 (limb 0 (divN (left256 R (n % 3000)) D)), .int .u64 (limb 1 (divN (left256 R (n % 3000)) D)), .int .u64 (limb 2 (divN (left256 R (n % 3000)) D)), .int .u64 (limb 3 (divN (left256 R (n % 3000)) D))] ∧ Box W' (v11_11) #[.int .u64 (limb 1 (farN R D (n % 3000).toNat)), .int .u64 (limb 0 (farN R D (n % 3000).toNat))] ∧ Box W' (w6.heap.size) #[.int .u64 (limb 1 (farN R D ((n % 3000).toNat))), .int .u64 (limb 0 (farN R D ((n % 3000).toNat)))]) 1000 (w6.heap.size + 1) [.known (bitsV (farN R D (n % 3000).toNat)), .known (bitsV (farN R D ((n % 3000).toNat))), .known (.bool true), .known (.bool true), .known (.bool true), .known (.int .i64 (n % 3000)), .known (.bool true), .known (.bool true), .known (.pointer (some ⟨v11_10, 0, none⟩)), .known (.int .u64 (limb 0 (divN (left256 R (n % 3000)) D))), .known (.int .u64 1), .known (.bool true), .known (.bool true), .known (.bool true), .known (.bool true), .known (.bool true), .known (.bool true), .known (.bool true), .known (.bool true)] (by kernel_rfl) (by kernel_rfl) (fun W W' h hb => ⟨h.1.step hb, Nat.le_trans (h.2.1) hb.size, Box.call hb (h.2.2.1), Box.call hb (h.2.2.2.1), Box.call hb (h.2.2.2.2)⟩) (fun W W' h hb => ⟨h.1.step hb, Nat.le_trans (h.2.1) hb.size, Box.call hb (h.2.2.1), Box.call hb (h.2.2.2.1), Box.call hb (h.2.2.2.2)⟩) (no_out (of_decide_eq_true (by kernel_rfl))) (.inl (by kernel_rfl)) (.inl (by kernel_rfl)) (fun _ h => h.2.1) (fun _ h => h.2.1) (⟨(by repeat (first | with_reducible exact hk | with_reducible exact Kept.refl _ | with_reducible refine Kept.alloc ?_ _ | with_reducible refine Kept.drew ?_ | with_reducible refine Kept.setCell ?_ (by simp only [World.size_alloc, World.size_setCell, World.size_drew]; omega) _)), (by (try simp only [World.size_alloc, World.size_setCell, World.size_drew]); omega), (by repeat (first | with_reducible assumption | with_reducible apply Box.set10 | with_reducible apply Box.set20 | with_reducible apply Box.set21 | with_reducible apply Box.set40 | with_reducible apply Box.set41 | with_reducible apply Box.set42 | with_reducible apply Box.set43 | with_reducible apply Box.set50 | with_reducible apply Box.set51 | with_reducible apply Box.set52 | with_reducible apply Box.set53 | with_reducible apply Box.set54 | with_reducible apply Box.drew | (with_reducible apply Box.newAt; (try simp only [World.size_alloc, World.size_setCell, World.size_drew]); done) | with_reducible apply Box.alloc | (with_reducible apply Box.other; case hne => ((try simp only [World.size_alloc, World.size_setCell, World.size_drew]); omega)))), (by repeat (first | with_reducible assumption | with_reducible apply Box.set10 | with_reducible apply Box.set20 | with_reducible apply Box.set21 | with_reducible apply Box.set40 | with_reducible apply Box.set41 | with_reducible apply Box.set42 | with_reducible apply Box.set43 | with_reducible apply Box.set50 | with_reducible apply Box.set51 | with_reducible apply Box.set52 | with_reducible apply Box.set53 | with_reducible apply Box.set54 | with_reducible apply Box.drew | (with_reducible apply Box.newAt; (try simp only [World.size_alloc, World.size_setCell, World.size_drew]); done) | with_reducible apply Box.alloc | (with_reducible apply Box.other; case hne => ((try simp only [World.size_alloc, World.size_setCell, World.size_drew]); omega)))), (by repeat (first | with_reducible assumption | with_reducible apply Box.set10 | with_reducible apply Box.set20 | with_reducible apply Box.set21 | with_reducible apply Box.set40 | with_reducible apply Box.set41 | with_reducible apply Box.set42 | with_reducible apply Box.set43 | with_reducible apply Box.set50 | with_reducible apply Box.set51 | with_reducible apply Box.set52 | with_reducible apply Box.set53 | with_reducible apply Box.set54 | with_reducible apply Box.drew | (with_reducible apply Box.newAt; (try simp only [World.size_alloc, World.size_setCell, World.size_drew]); done) | with_reducible apply Box.alloc | (with_reducible apply Box.other; case hne => ((try simp only [World.size_alloc, World.size_setCell, World.size_drew]); omega))))⟩) ?_
      clear hk
      clear Bv11_10 Bv11_10l1 Bv11_10l2 Bv11_10l3 Bv11_10f Bv11_100 Bv11_101 Bv11_102 Bv11_103
      clear Bv11_11 Bv11_11l1 Bv11_11l2 Bv11_11l3 Bv11_11f Bv11_110 Bv11_111
      intro ρ
      simp only [List.take_succ_cons, List.take_zero, List.drop_succ_cons, List.drop_zero]
      refine ⟨?_, ?_⟩
      · as_aux_lemma =>
        intro y_ hS_ hD
        have hS := hS_ (by rfl)
        have Q := (hS.2.2.2.1).cell
        have q0 := Q 0 _ rfl
        have q1 := Q 1 _ rfl
        clear Q hS hS_ hD
        refine s_gen (V := bitsV (farN R D (n % 3000).toNat)) [.pointer (some ⟨v11_11, 0, none⟩)] (by kernel_rfl) (by kernel_rfl) (by kernel_rfl) ?_
        intro r_ hr_
        have o0_ : r_ (.tmp 21) = .pointer (some ⟨v11_11, 0, none⟩) := op_at hr_ 0 (by kernel_rfl) (by kernel_rfl)
        clear hr_
        go_simp; first | done | with_reducible rfl
      simp only [Act.put, planVG, List.setIfInBounds_toArray, List.set_cons_zero, List.set_cons_succ, List.getElem?_cons_zero, List.getElem?_cons_succ]
      refine ⟨?_, ?_⟩
      · as_aux_lemma =>
        intro y_ hS_ hD
        have hS := hS_ (by rfl)
        have Q := (hS.2.2.2.2).cell
        have q0 := Q 0 _ rfl
        have q1 := Q 1 _ rfl
        clear Q hS hS_ hD
        refine s_gen (V := bitsV (farN R D ((n % 3000).toNat))) [.pointer (some ⟨w6.heap.size, 0, none⟩)] (by kernel_rfl) (by kernel_rfl) (by kernel_rfl) ?_
        intro r_ hr_
        have o0_ : r_ (.tmp 23) = .pointer (some ⟨w6.heap.size, 0, none⟩) := op_at hr_ 0 (by kernel_rfl) (by kernel_rfl)
        clear hr_
        go_simp; first | done | with_reducible rfl
      simp only [Act.put, planVG, List.setIfInBounds_toArray, List.set_cons_zero, List.set_cons_succ, List.getElem?_cons_zero, List.getElem?_cons_succ]
      refine ⟨?_, ?_⟩
      · as_aux_lemma =>
        intro y_ hS_ hD
        clear hS_ hD
        refine s_gen (V := .bool true) [bitsV (farN R D (n % 3000).toNat), bitsV (farN R D ((n % 3000).toNat))] (by kernel_rfl) (by kernel_rfl) (by kernel_rfl) ?_
        intro r_ hr_
        have o0_ : r_ (.tmp 112) = bitsV (farN R D (n % 3000).toNat) := op_at hr_ 0 (by kernel_rfl) (by kernel_rfl)
        have o1_ : r_ (.tmp 113) = bitsV (farN R D ((n % 3000).toNat)) := op_at hr_ 1 (by kernel_rfl) (by kernel_rfl)
        clear hr_
        go_simp; first | done | with_reducible rfl
      simp only [Act.put, planVG, List.setIfInBounds_toArray, List.set_cons_zero, List.set_cons_succ, List.getElem?_cons_zero, List.getElem?_cons_succ]
      refine ⟨?_, ?_⟩
      · as_aux_lemma =>
        intro y_ hS_ hD
        clear hS_ hD
        refine s_gen (V := .bool true) [.bool true] (by kernel_rfl) (by kernel_rfl) (by kernel_rfl) ?_
        intro r_ hr_
        have o0_ : r_ (.tmp 114) = .bool true := op_at hr_ 0 (by kernel_rfl) (by kernel_rfl)
        clear hr_
        go_simp; first | done | with_reducible rfl
      simp only [Act.put, planVG, List.setIfInBounds_toArray, List.set_cons_zero, List.set_cons_succ, List.getElem?_cons_zero, List.getElem?_cons_succ]
      refine ⟨?_, ?_⟩
      · as_aux_lemma =>
        intro y_ hS_ hD
        clear hS_ hD
        refine s_gen (V := .bool true) [.bool true] (by kernel_rfl) (by kernel_rfl) (by kernel_rfl) ?_
        intro r_ hr_
        have o0_ : r_ (.tmp 24) = .bool true := op_at hr_ 0 (by kernel_rfl) (by kernel_rfl)
        clear hr_
        go_simp; first | done | with_reducible rfl
      simp only [Act.put, planVG, List.setIfInBounds_toArray, List.set_cons_zero, List.set_cons_succ, List.getElem?_cons_zero, List.getElem?_cons_succ]
      refine ⟨?_, ?_⟩
      · as_aux_lemma =>
        intro y_ hS_ hD
        clear hS_ hD
        refine s_gen (V := .int .i64 (n % 3000)) [.int .i64 (n % 3000)] (by kernel_rfl) (by kernel_rfl) (by kernel_rfl) ?_
        intro r_ hr_
        have o0_ : r_ (.tmp 9) = .int .i64 (n % 3000) := op_at hr_ 0 (by kernel_rfl) (by kernel_rfl)
        clear hr_
        go_simp; first | done | with_reducible rfl
      simp only [Act.put, planVG, List.setIfInBounds_toArray, List.set_cons_zero, List.set_cons_succ, List.getElem?_cons_zero, List.getElem?_cons_succ]
      refine ⟨?_, ?_⟩
      · as_aux_lemma =>
        intro y_ hS_ hD
        clear hS_ hD
        refine s_gen (V := .bool true) [.int .i64 (n % 3000), .int .i64 0] (by kernel_rfl) (by kernel_rfl) (by kernel_rfl) ?_
        intro r_ hr_
        have o0_ : r_ (.tmp 117) = .int .i64 (n % 3000) := op_at hr_ 0 (by kernel_rfl) (by kernel_rfl)
        have o1_ : r_ (.const (.int .i64 0)) = .int .i64 0 := op_at hr_ 1 (by kernel_rfl) (by kernel_rfl)
        clear hr_
        go_simp; first | done | with_reducible rfl
      simp only [Act.put, planVG, List.setIfInBounds_toArray, List.set_cons_zero, List.set_cons_succ, List.getElem?_cons_zero, List.getElem?_cons_succ]
      refine ⟨?_, ?_⟩
      · as_aux_lemma =>
        intro y_ hS_ hD
        clear hS_ hD
        refine s_gen (V := .bool true) [.bool true] (by kernel_rfl) (by kernel_rfl) (by kernel_rfl) ?_
        intro r_ hr_
        have o0_ : r_ (.tmp 118) = .bool true := op_at hr_ 0 (by kernel_rfl) (by kernel_rfl)
        clear hr_
        go_simp; first | done | with_reducible rfl
      simp only [Act.put, planVG, List.setIfInBounds_toArray, List.set_cons_zero, List.set_cons_succ, List.getElem?_cons_zero, List.getElem?_cons_succ]
      refine ⟨?_, ?_⟩
      · as_aux_lemma =>
        intro y_ hS_ hD
        clear hS_ hD
        refine s_gen (V := .pointer (some ⟨v11_10, 0, none⟩)) [.pointer (some ⟨v11_10, 0, none⟩), .int .i64 0] (by kernel_rfl) (by kernel_rfl) (by kernel_rfl) ?_
        intro r_ hr_
        have o0_ : r_ (.tmp 20) = .pointer (some ⟨v11_10, 0, none⟩) := op_at hr_ 0 (by kernel_rfl) (by kernel_rfl)
        have o1_ : r_ (.const (.int .i64 0)) = .int .i64 0 := op_at hr_ 1 (by kernel_rfl) (by kernel_rfl)
        clear hr_
        go_simp; first | done | with_reducible rfl
      simp only [Act.put, planVG, List.setIfInBounds_toArray, List.set_cons_zero, List.set_cons_succ, List.getElem?_cons_zero, List.getElem?_cons_succ]
      refine ⟨?_, ?_⟩
      · as_aux_lemma =>
        intro y_ hS_ hD
        have hS := hS_ (by rfl)
        have Q := (hS.2.2.1).cell
        have q0 := Q 0 _ rfl
        have q1 := Q 1 _ rfl
        have q2 := Q 2 _ rfl
        have q3 := Q 3 _ rfl
        clear Q hS hS_ hD
        refine s_gen (V := .int .u64 (limb 0 (divN (left256 R (n % 3000)) D))) [.pointer (some ⟨v11_10, 0, none⟩)] (by kernel_rfl) (by kernel_rfl) (by kernel_rfl) ?_
        intro r_ hr_
        have o0_ : r_ (.tmp 120) = .pointer (some ⟨v11_10, 0, none⟩) := op_at hr_ 0 (by kernel_rfl) (by kernel_rfl)
        clear hr_
        go_simp; first | done | with_reducible rfl
      simp only [Act.put, planVG, List.setIfInBounds_toArray, List.set_cons_zero, List.set_cons_succ, List.getElem?_cons_zero, List.getElem?_cons_succ]
      refine ⟨?_, ?_⟩
      · as_aux_lemma =>
        intro y_ hS_ hD
        clear hS_ hD
        refine s_gen (V := .int .u64 1) [.int .u64 (limb 0 (divN (left256 R (n % 3000)) D)), .int .u64 1] (by kernel_rfl) (by kernel_rfl) (by kernel_rfl) ?_
        intro r_ hr_
        have o0_ : r_ (.tmp 121) = .int .u64 (limb 0 (divN (left256 R (n % 3000)) D)) := op_at hr_ 0 (by kernel_rfl) (by kernel_rfl)
        have o1_ : r_ (.const (.int .u64 1)) = .int .u64 1 := op_at hr_ 1 (by kernel_rfl) (by kernel_rfl)
        clear hr_
        go_simp; first | done | with_reducible rfl
      simp only [Act.put, planVG, List.setIfInBounds_toArray, List.set_cons_zero, List.set_cons_succ, List.getElem?_cons_zero, List.getElem?_cons_succ]
      refine ⟨?_, ?_⟩
      · as_aux_lemma =>
        intro y_ hS_ hD
        clear hS_ hD
        refine s_gen (V := .bool true) [.int .u64 1, .int .u64 1] (by kernel_rfl) (by kernel_rfl) (by kernel_rfl) ?_
        intro r_ hr_
        have o0_ : r_ (.tmp 122) = .int .u64 1 := op_at hr_ 0 (by kernel_rfl) (by kernel_rfl)
        have o1_ : r_ (.const (.int .u64 1)) = .int .u64 1 := op_at hr_ 1 (by kernel_rfl) (by kernel_rfl)
        clear hr_
        go_simp; first | done | with_reducible rfl
      simp only [Act.put, planVG, List.setIfInBounds_toArray, List.set_cons_zero, List.set_cons_succ, List.getElem?_cons_zero, List.getElem?_cons_succ]
      refine ⟨?_, ?_⟩
      · as_aux_lemma =>
        intro y_ hS_ hD
        clear hS_ hD
        refine s_gen (V := .bool true) [.bool true, .bool true, .bool false] (by kernel_rfl) (by kernel_rfl) (by kernel_rfl) ?_
        intro r_ hr_
        have o0_ : r_ (.tmp 119) = .bool true := op_at hr_ 0 (by kernel_rfl) (by kernel_rfl)
        have o1_ : r_ (.tmp 123) = .bool true := op_at hr_ 1 (by kernel_rfl) (by kernel_rfl)
        have o2_ : r_ (.const (.bool false)) = .bool false := op_at hr_ 2 (by kernel_rfl) (by kernel_rfl)
        clear hr_
        go_simp; first | done | with_reducible rfl
      simp only [Act.put, planVG, List.setIfInBounds_toArray, List.set_cons_zero, List.set_cons_succ, List.getElem?_cons_zero, List.getElem?_cons_succ]
      refine ⟨?_, ?_⟩
      · as_aux_lemma =>
        intro y_ hS_ hD
        clear hS_ hD
        refine s_gen (V := .bool true) [.bool true, .bool true] (by kernel_rfl) (by kernel_rfl) (by kernel_rfl) ?_
        intro r_ hr_
        have o0_ : r_ (.tmp 116) = .bool true := op_at hr_ 0 (by kernel_rfl) (by kernel_rfl)
        have o1_ : r_ (.tmp 124) = .bool true := op_at hr_ 1 (by kernel_rfl) (by kernel_rfl)
        clear hr_
        go_simp; first | done | with_reducible rfl
      simp only [Act.put, planVG, List.setIfInBounds_toArray, List.set_cons_zero, List.set_cons_succ, List.getElem?_cons_zero, List.getElem?_cons_succ]
      refine ⟨?_, ?_⟩
      · as_aux_lemma =>
        intro y_ hS_ hD
        clear hS_ hD
        refine s_gen (V := .bool true) [.bool true, .bool true, .bool false] (by kernel_rfl) (by kernel_rfl) (by kernel_rfl) ?_
        intro r_ hr_
        have o0_ : r_ (.tmp 115) = .bool true := op_at hr_ 0 (by kernel_rfl) (by kernel_rfl)
        have o1_ : r_ (.tmp 125) = .bool true := op_at hr_ 1 (by kernel_rfl) (by kernel_rfl)
        have o2_ : r_ (.const (.bool false)) = .bool false := op_at hr_ 2 (by kernel_rfl) (by kernel_rfl)
        clear hr_
        go_simp; first | done | with_reducible rfl
      simp only [Act.put, planVG, List.setIfInBounds_toArray, List.set_cons_zero, List.set_cons_succ, List.getElem?_cons_zero, List.getElem?_cons_succ]
      refine ⟨?_, ?_⟩
      · as_aux_lemma =>
        intro y_ hS_ hD
        clear hS_ hD
        refine s_gen (V := .bool true) [.bool true] (by kernel_rfl) (by kernel_rfl) (by kernel_rfl) ?_
        intro r_ hr_
        have o0_ : r_ (.tmp 126) = .bool true := op_at hr_ 0 (by kernel_rfl) (by kernel_rfl)
        clear hr_
        go_simp; first | done | with_reducible rfl
      simp only [Act.put, planVG, List.setIfInBounds_toArray, List.set_cons_zero, List.set_cons_succ, List.getElem?_cons_zero, List.getElem?_cons_succ]
      refine ⟨?_, ?_⟩
      · as_aux_lemma =>
        intro y_ hS_ hD
        try clear hS
        clear hS_ hD
        refine s_gcall (V := .bool true) [.func (.func 37) #[] #[]] ?_ ?_ (by kernel_rfl) (by kernel_rfl) (by kernel_rfl) ?_ ?_
        rotate_left 2
        · intro r_ hr_
          have o0_ : r_ (.func 37) = .func (.func 37) #[] #[] := op_at hr_ 0 (by kernel_rfl) (by kernel_rfl)
          clear hr_
          go_simp; first | done | with_reducible rfl | (constructor <;> with_reducible rfl)
        · refine goes05_any _
      simp only [Act.put, planVG, List.setIfInBounds_toArray, List.set_cons_zero, List.set_cons_succ, List.getElem?_cons_zero, List.getElem?_cons_succ]
      refine ⟨?_, ?_⟩
      · as_aux_lemma =>
        intro y_ hS_ hD
        clear hS_ hD
        refine s_gen (V := .bool true) [.bool true, .bool true, .bool false] (by kernel_rfl) (by kernel_rfl) (by kernel_rfl) ?_
        intro r_ hr_
        have o0_ : r_ (.tmp 127) = .bool true := op_at hr_ 0 (by kernel_rfl) (by kernel_rfl)
        have o1_ : r_ (.tmp 128) = .bool true := op_at hr_ 1 (by kernel_rfl) (by kernel_rfl)
        have o2_ : r_ (.const (.bool false)) = .bool false := op_at hr_ 2 (by kernel_rfl) (by kernel_rfl)
        clear hr_
        go_simp; first | done | with_reducible rfl
      simp only [Act.put, planVG, List.setIfInBounds_toArray, List.set_cons_zero, List.set_cons_succ, List.getElem?_cons_zero, List.getElem?_cons_succ]
      refine ⟨?_, ?_⟩
      · as_aux_lemma =>
        intro y_ hS_ hD
        clear hS_ hD
        refine s_gen (V := .bool true) [.bool true] (by kernel_rfl) (by kernel_rfl) (by kernel_rfl) ?_
        intro r_ hr_
        have o0_ : r_ (.tmp 129) = .bool true := op_at hr_ 0 (by kernel_rfl) (by kernel_rfl)
        clear hr_
        go_simp; first | done | with_reducible rfl
      simp only [Act.put, planVG, List.setIfInBounds_toArray, List.set_cons_zero, List.set_cons_succ, List.getElem?_cons_zero, List.getElem?_cons_succ]
      as_aux_lemma =>
        intro w7 hS hF hD_
        change wpList _ _ _ _ _ _
        replace hS := sg_no (by decide) hS
        obtain ⟨hk, hZ7, Bv11_10, Bv11_11, X5⟩ := hS
        clear hF hD_
        clear ρ
        have hz_w7 := hk.size
        have Bv11_10l := Bv11_10.lt
        have Bv11_10f := Bv11_10.free
        have Bv11_10l1 : v11_10 < w7.heap.size + 1 := by omega
        have Bv11_10l2 : v11_10 < w7.heap.size + 1 + 1 := by omega
        have Bv11_10l3 : v11_10 < w7.heap.size + 1 + 1 + 1 := by omega
        have Bv11_100 := Bv11_10.cell 0 _ rfl
        have Bv11_101 := Bv11_10.cell 1 _ rfl
        have Bv11_102 := Bv11_10.cell 2 _ rfl
        have Bv11_103 := Bv11_10.cell 3 _ rfl
        have Bv11_11l := Bv11_11.lt
        have Bv11_11f := Bv11_11.free
        have Bv11_11l1 : v11_11 < w7.heap.size + 1 := by omega
        have Bv11_11l2 : v11_11 < w7.heap.size + 1 + 1 := by omega
        have Bv11_11l3 : v11_11 < w7.heap.size + 1 + 1 + 1 := by omega
        have Bv11_110 := Bv11_11.cell 0 _ rfl
        have Bv11_111 := Bv11_11.cell 1 _ rfl
        have X5l := X5.lt
        have X5f := X5.free
        have X5l1 : w6.heap.size < w7.heap.size + 1 := by omega
        have X5l2 : w6.heap.size < w7.heap.size + 1 + 1 := by omega
        have X5l3 : w6.heap.size < w7.heap.size + 1 + 1 + 1 := by omega
        have X50 := X5.cell 0 _ rfl
        have X51 := X5.cell 1 _ rfl
        go_wp2
        go_ret
        exact ⟨rfl, (by refine Kept.below ?_; repeat (first | with_reducible exact hk | with_reducible exact Kept.refl _ | with_reducible refine Kept.alloc ?_ _ | with_reducible refine Kept.drew ?_ | with_reducible refine Kept.setCell ?_ (by simp only [World.size_alloc, World.size_setCell, World.size_drew]; omega) _))⟩

set_option maxRecDepth 100000 in
set_option maxHeartbeats 8000000 in
theorem QuotTwice_0mid0 {R D : Nat} {n m : Int} (hR : W128 R) (hD : W128 D) (n0 : 0 ≤ n) (n1 : n ≤ 65535) (m0 : 0 ≤ m) (m1 : m ≤ 65535) (h : R < D) (y0 : m % 3000 = 0) (x0 : 0 < n % 3000) (x1 : n % 3000 ≤ 128) (ho : oddF R D ((n % 3000).toNat) = false) (w : World) :
    Calls Try.prog 13 #[bitsV R, .int .u16 n, .int .u16 m, bitsV D] w fun e w' => e = .returned (.bool true) ∧ Below w.heap.size w w' := by
  have hk := Kept.refl w
  have c1 := cmp_lt h
  have HP : 0 < D := by omega
  have EF := Lib.hid (far_far R D ((n % 3000).toNat) ((m % 3000).toNat))
  have ww : IntKind.i64.wrap (n % 3000 + m % 3000) = n % 3000 + m % 3000 := IntWalk.i64_in _ (by omega)
  obtain ⟨el, eb⟩ := qt_left (D := D) (x := n % 3000) hR (by omega) (by omega)
  have ox : oddF R D ((n % 3000).toNat) = false := ho
  rw [ox] at eb
  have eb2 : bits .and .u64 (limb 0 (divN (left256 R (n % 3000)) D)) 1 = 0 := eb
  clear eb
  have EL := Lib.hid el; have OX := Lib.hid ox
  clear el ox
  have yn : ¬ 0 < m % 3000 := by omega
  clear y0
  clear ho
  go_enter Try.func13, Try.ntmps13
  go_wp2_with fail
  (with_reducible refine (calls_to (V := .tuple #[bitsV (farN R D ((n % 3000).toNat)), .bool false, .bool true]) (Mod_at (IsBits.of hR) (IsBits.of hD) h ((n % 3000).toNat) (z := n % 3000) (by omega) (by omega) _) (by rw [OX.out])).mono ?_)
  rintro e w1 ⟨rfl, hb⟩
  have X1' : Box w1 (w.heap.size) #[.int .u64 (limb 1 R), .int .u64 (limb 0 R)] := Box.call hb (by repeat (first | with_reducible assumption | with_reducible apply Box.set10 | with_reducible apply Box.set20 | with_reducible apply Box.set21 | with_reducible apply Box.set40 | with_reducible apply Box.set41 | with_reducible apply Box.set42 | with_reducible apply Box.set43 | with_reducible apply Box.set50 | with_reducible apply Box.set51 | with_reducible apply Box.set52 | with_reducible apply Box.set53 | with_reducible apply Box.set54 | with_reducible apply Box.drew | (with_reducible apply Box.newAt; (try simp only [World.size_alloc, World.size_setCell, World.size_drew]); done) | with_reducible apply Box.alloc | (with_reducible apply Box.other; case hne => ((try simp only [World.size_alloc, World.size_setCell, World.size_drew]); omega))))
  have X2' : Box w1 (w.heap.size + 1) #[.int .u64 (limb 1 D), .int .u64 (limb 0 D)] := Box.call hb (by repeat (first | with_reducible assumption | with_reducible apply Box.set10 | with_reducible apply Box.set20 | with_reducible apply Box.set21 | with_reducible apply Box.set40 | with_reducible apply Box.set41 | with_reducible apply Box.set42 | with_reducible apply Box.set43 | with_reducible apply Box.set50 | with_reducible apply Box.set51 | with_reducible apply Box.set52 | with_reducible apply Box.set53 | with_reducible apply Box.set54 | with_reducible apply Box.drew | (with_reducible apply Box.newAt; (try simp only [World.size_alloc, World.size_setCell, World.size_drew]); done) | with_reducible apply Box.alloc | (with_reducible apply Box.other; case hne => ((try simp only [World.size_alloc, World.size_setCell, World.size_drew]); omega))))
  have hk' : Kept w.heap.size w w1 := Kept.step (by repeat (first | with_reducible exact hk | with_reducible exact Kept.refl _ | with_reducible refine Kept.alloc ?_ _ | with_reducible refine Kept.drew ?_ | with_reducible refine Kept.setCell ?_ (by simp only [World.size_alloc, World.size_setCell, World.size_drew]; omega) _)) hb
  clear hk hb
  have X1 := X1'
  clear X1'
  have X2 := X2'
  clear X2'
  have hk := hk'
  clear hk'
  have hz_w1 := hk.size
  have X1l := X1.lt
  have X1f := X1.free
  have X1l1 : w.heap.size < w1.heap.size + 1 := by omega
  have X1l2 : w.heap.size < w1.heap.size + 1 + 1 := by omega
  have X1l3 : w.heap.size < w1.heap.size + 1 + 1 + 1 := by omega
  have X10 := X1.cell 0 _ rfl
  have X11 := X1.cell 1 _ rfl
  have X2l := X2.lt
  have X2f := X2.free
  have X2l1 : w.heap.size + 1 < w1.heap.size + 1 := by omega
  have X2l2 : w.heap.size + 1 < w1.heap.size + 1 + 1 := by omega
  have X2l3 : w.heap.size + 1 < w1.heap.size + 1 + 1 + 1 := by omega
  have X20 := X2.cell 0 _ rfl
  have X21 := X2.cell 1 _ rfl
  go_wp2_with fail
  (with_reducible refine (Cmp_at (IsBits.of hR) (IsBits.of hD) _).mono ?_)
  rintro e w2 ⟨rfl, hb⟩
  have X1' : Box w2 (w.heap.size) #[.int .u64 (limb 1 R), .int .u64 (limb 0 R)] := Box.call hb (by repeat (first | with_reducible assumption | with_reducible apply Box.set10 | with_reducible apply Box.set20 | with_reducible apply Box.set21 | with_reducible apply Box.set40 | with_reducible apply Box.set41 | with_reducible apply Box.set42 | with_reducible apply Box.set43 | with_reducible apply Box.set50 | with_reducible apply Box.set51 | with_reducible apply Box.set52 | with_reducible apply Box.set53 | with_reducible apply Box.set54 | with_reducible apply Box.drew | (with_reducible apply Box.newAt; (try simp only [World.size_alloc, World.size_setCell, World.size_drew]); done) | with_reducible apply Box.alloc | (with_reducible apply Box.other; case hne => ((try simp only [World.size_alloc, World.size_setCell, World.size_drew]); omega))))
  have X2' : Box w2 (w.heap.size + 1) #[.int .u64 (limb 1 D), .int .u64 (limb 0 D)] := Box.call hb (by repeat (first | with_reducible assumption | with_reducible apply Box.set10 | with_reducible apply Box.set20 | with_reducible apply Box.set21 | with_reducible apply Box.set40 | with_reducible apply Box.set41 | with_reducible apply Box.set42 | with_reducible apply Box.set43 | with_reducible apply Box.set50 | with_reducible apply Box.set51 | with_reducible apply Box.set52 | with_reducible apply Box.set53 | with_reducible apply Box.set54 | with_reducible apply Box.drew | (with_reducible apply Box.newAt; (try simp only [World.size_alloc, World.size_setCell, World.size_drew]); done) | with_reducible apply Box.alloc | (with_reducible apply Box.other; case hne => ((try simp only [World.size_alloc, World.size_setCell, World.size_drew]); omega))))
  have X3' : Box w2 (w1.heap.size) #[.int .u64 (limb 1 (farN R D ((n % 3000).toNat))), .int .u64 (limb 0 (farN R D ((n % 3000).toNat)))] := Box.call hb (by repeat (first | with_reducible assumption | with_reducible apply Box.set10 | with_reducible apply Box.set20 | with_reducible apply Box.set21 | with_reducible apply Box.set40 | with_reducible apply Box.set41 | with_reducible apply Box.set42 | with_reducible apply Box.set43 | with_reducible apply Box.set50 | with_reducible apply Box.set51 | with_reducible apply Box.set52 | with_reducible apply Box.set53 | with_reducible apply Box.set54 | with_reducible apply Box.drew | (with_reducible apply Box.newAt; (try simp only [World.size_alloc, World.size_setCell, World.size_drew]); done) | with_reducible apply Box.alloc | (with_reducible apply Box.other; case hne => ((try simp only [World.size_alloc, World.size_setCell, World.size_drew]); omega))))
  have hk' : Kept w.heap.size w w2 := Kept.step (by repeat (first | with_reducible exact hk | with_reducible exact Kept.refl _ | with_reducible refine Kept.alloc ?_ _ | with_reducible refine Kept.drew ?_ | with_reducible refine Kept.setCell ?_ (by simp only [World.size_alloc, World.size_setCell, World.size_drew]; omega) _)) hb
  clear hk hb
  clear X1 X1l1 X1l2 X1l3 X1f X10 X11
  clear X2 X2l1 X2l2 X2l3 X2f X20 X21
  have X1 := X1'
  clear X1'
  have X2 := X2'
  clear X2'
  have X3 := X3'
  clear X3'
  have hk := hk'
  clear hk'
  have hz_w2 := hk.size
  have X1l := X1.lt
  have X1f := X1.free
  have X1l1 : w.heap.size < w2.heap.size + 1 := by omega
  have X1l2 : w.heap.size < w2.heap.size + 1 + 1 := by omega
  have X1l3 : w.heap.size < w2.heap.size + 1 + 1 + 1 := by omega
  have X10 := X1.cell 0 _ rfl
  have X11 := X1.cell 1 _ rfl
  have X2l := X2.lt
  have X2f := X2.free
  have X2l1 : w.heap.size + 1 < w2.heap.size + 1 := by omega
  have X2l2 : w.heap.size + 1 < w2.heap.size + 1 + 1 := by omega
  have X2l3 : w.heap.size + 1 < w2.heap.size + 1 + 1 + 1 := by omega
  have X20 := X2.cell 0 _ rfl
  have X21 := X2.cell 1 _ rfl
  have X3l := X3.lt
  have X3f := X3.free
  have X3l1 : w1.heap.size < w2.heap.size + 1 := by omega
  have X3l2 : w1.heap.size < w2.heap.size + 1 + 1 := by omega
  have X3l3 : w1.heap.size < w2.heap.size + 1 + 1 + 1 := by omega
  have X30 := X3.cell 0 _ rfl
  have X31 := X3.cell 1 _ rfl
  go_wp2_with fail
  (with_reducible refine (calls_to (V := .tuple #[bitsV (farN R D ((n % 3000).toNat + (m % 3000).toNat)), .bool (oddF (farN R D ((n % 3000).toNat)) D ((m % 3000).toNat)), .bool true]) (Mod_at (IsBits.of (far_w _ (IsBits.of hD).w h _)) (IsBits.of hD) (far_lt R HP ((n % 3000).toNat)) ((m % 3000).toNat) (z := m % 3000) (by omega) (by omega) _) (by rw [EF.out])).mono ?_)
  rintro e w3 ⟨rfl, hb⟩
  have X1' : Box w3 (w.heap.size) #[.int .u64 (limb 1 R), .int .u64 (limb 0 R)] := Box.call hb (by repeat (first | with_reducible assumption | with_reducible apply Box.set10 | with_reducible apply Box.set20 | with_reducible apply Box.set21 | with_reducible apply Box.set40 | with_reducible apply Box.set41 | with_reducible apply Box.set42 | with_reducible apply Box.set43 | with_reducible apply Box.set50 | with_reducible apply Box.set51 | with_reducible apply Box.set52 | with_reducible apply Box.set53 | with_reducible apply Box.set54 | with_reducible apply Box.drew | (with_reducible apply Box.newAt; (try simp only [World.size_alloc, World.size_setCell, World.size_drew]); done) | with_reducible apply Box.alloc | (with_reducible apply Box.other; case hne => ((try simp only [World.size_alloc, World.size_setCell, World.size_drew]); omega))))
  have X2' : Box w3 (w.heap.size + 1) #[.int .u64 (limb 1 D), .int .u64 (limb 0 D)] := Box.call hb (by repeat (first | with_reducible assumption | with_reducible apply Box.set10 | with_reducible apply Box.set20 | with_reducible apply Box.set21 | with_reducible apply Box.set40 | with_reducible apply Box.set41 | with_reducible apply Box.set42 | with_reducible apply Box.set43 | with_reducible apply Box.set50 | with_reducible apply Box.set51 | with_reducible apply Box.set52 | with_reducible apply Box.set53 | with_reducible apply Box.set54 | with_reducible apply Box.drew | (with_reducible apply Box.newAt; (try simp only [World.size_alloc, World.size_setCell, World.size_drew]); done) | with_reducible apply Box.alloc | (with_reducible apply Box.other; case hne => ((try simp only [World.size_alloc, World.size_setCell, World.size_drew]); omega))))
  have hk' : Kept w.heap.size w w3 := Kept.step (by repeat (first | with_reducible exact hk | with_reducible exact Kept.refl _ | with_reducible refine Kept.alloc ?_ _ | with_reducible refine Kept.drew ?_ | with_reducible refine Kept.setCell ?_ (by simp only [World.size_alloc, World.size_setCell, World.size_drew]; omega) _)) hb
  clear hk hb
  clear X1 X1l1 X1l2 X1l3 X1f X10 X11
  clear X2 X2l1 X2l2 X2l3 X2f X20 X21
  clear X3 X3l1 X3l2 X3l3 X3f X30 X31
  have X1 := X1'
  clear X1'
  have X2 := X2'
  clear X2'
  have hk := hk'
  clear hk'
  have hz_w3 := hk.size
  have X1l := X1.lt
  have X1f := X1.free
  have X1l1 : w.heap.size < w3.heap.size + 1 := by omega
  have X1l2 : w.heap.size < w3.heap.size + 1 + 1 := by omega
  have X1l3 : w.heap.size < w3.heap.size + 1 + 1 + 1 := by omega
  have X10 := X1.cell 0 _ rfl
  have X11 := X1.cell 1 _ rfl
  have X2l := X2.lt
  have X2f := X2.free
  have X2l1 : w.heap.size + 1 < w3.heap.size + 1 := by omega
  have X2l2 : w.heap.size + 1 < w3.heap.size + 1 + 1 := by omega
  have X2l3 : w.heap.size + 1 < w3.heap.size + 1 + 1 + 1 := by omega
  have X20 := X2.cell 0 _ rfl
  have X21 := X2.cell 1 _ rfl
  go_upto_region 6 with fail
  refine wp_region_p 13 (fun W' => Kept w.heap.size w W' ∧ w3.heap.size + 1 ≤ W'.heap.size ∧ Box W' (w.heap.size) #[.int .u64 (limb 1 R), .int .u64 (limb 0 R)] ∧ Box W' (w.heap.size + 1) #[.int .u64 (limb 1 D), .int .u64 (limb 0 D)] ∧ Box W' (w3.heap.size) #[.int .u64 (limb 1 (farN R D ((n % 3000).toNat + (m % 3000).toNat))), .int .u64 (limb 0 (farN R D ((n % 3000).toNat + (m % 3000).toNat)))]) (fun W' => Kept w.heap.size w W' ∧ w3.heap.size + 1 ≤ W'.heap.size ∧ Box W' (w.heap.size) #[.int .u64 (limb 1 R), .int .u64 (limb 0 R)] ∧ Box W' (w.heap.size + 1) #[.int .u64 (limb 1 D), .int .u64 (limb 0 D)] ∧ Box W' (w3.heap.size) #[.int .u64 (limb 1 (farN R D ((n % 3000).toNat + (m % 3000).toNat))), .int .u64 (limb 0 (farN R D ((n % 3000).toNat + (m % 3000).toNat)))]) 1000 (w3.heap.size + 1) [.known (bitsV R), .known (.int .i64 (n % 3000)), .known (.int .i64 (m % 3000)), .known (.int .i64 (n % 3000 + m % 3000)), .known (bitsV D), .known (.tuple #[bitsV (farN R D ((n % 3000).toNat + (m % 3000).toNat)), .bool (oddF R D ((n % 3000).toNat + (m % 3000).toNat)), .bool true]), .known (.tuple #[bitsV (farN R D ((n % 3000).toNat + (m % 3000).toNat)), .bool (oddF R D ((n % 3000).toNat + (m % 3000).toNat)), .bool true]), .known (bitsV (farN R D ((n % 3000).toNat + (m % 3000).toNat))), .known (.bool (oddF R D ((n % 3000).toNat + (m % 3000).toNat))), .known (.bool true), .var #[.int .u64 0, .int .u64 0] 11 [.int .u64 (limb 1 (farN R D ((n % 3000).toNat + (m % 3000).toNat))), .int .u64 (limb 0 (farN R D ((n % 3000).toNat + (m % 3000).toNat)))], .put 10, .known (.bool (oddF R D ((n % 3000).toNat + (m % 3000).toNat)))] (by kernel_rfl) (by kernel_rfl) (fun W W' h hb => ⟨h.1.step hb, Nat.le_trans (h.2.1) hb.size, Box.call hb (h.2.2.1), Box.call hb (h.2.2.2.1), Box.call hb (h.2.2.2.2)⟩) (fun W W' h hb => ⟨h.1.step hb, Nat.le_trans (h.2.1) hb.size, Box.call hb (h.2.2.1), Box.call hb (h.2.2.2.1), Box.call hb (h.2.2.2.2)⟩) (no_out (of_decide_eq_true (by kernel_rfl))) (.inr (fun W' b i v hb h => ⟨h.1.setCell (p := ⟨b, i, none⟩) (by simp only []; omega) v, (by rw [World.size_setCell]; exact h.2.1), (h.2.2.1).other (by omega), (h.2.2.2.1).other (by omega), (h.2.2.2.2).other (by omega)⟩)) (.inr (fun W' b i v hb h => ⟨h.1.setCell (p := ⟨b, i, none⟩) (by simp only []; omega) v, (by rw [World.size_setCell]; exact h.2.1), (h.2.2.1).other (by omega), (h.2.2.2.1).other (by omega), (h.2.2.2.2).other (by omega)⟩)) (fun _ h => h.2.1) (fun _ h => h.2.1) (⟨(by repeat (first | with_reducible exact hk | with_reducible exact Kept.refl _ | with_reducible refine Kept.alloc ?_ _ | with_reducible refine Kept.drew ?_ | with_reducible refine Kept.setCell ?_ (by simp only [World.size_alloc, World.size_setCell, World.size_drew]; omega) _)), (by (try simp only [World.size_alloc, World.size_setCell, World.size_drew]); omega), (by repeat (first | with_reducible assumption | with_reducible apply Box.set10 | with_reducible apply Box.set20 | with_reducible apply Box.set21 | with_reducible apply Box.set40 | with_reducible apply Box.set41 | with_reducible apply Box.set42 | with_reducible apply Box.set43 | with_reducible apply Box.set50 | with_reducible apply Box.set51 | with_reducible apply Box.set52 | with_reducible apply Box.set53 | with_reducible apply Box.set54 | with_reducible apply Box.drew | (with_reducible apply Box.newAt; (try simp only [World.size_alloc, World.size_setCell, World.size_drew]); done) | with_reducible apply Box.alloc | (with_reducible apply Box.other; case hne => ((try simp only [World.size_alloc, World.size_setCell, World.size_drew]); omega)))), (by repeat (first | with_reducible assumption | with_reducible apply Box.set10 | with_reducible apply Box.set20 | with_reducible apply Box.set21 | with_reducible apply Box.set40 | with_reducible apply Box.set41 | with_reducible apply Box.set42 | with_reducible apply Box.set43 | with_reducible apply Box.set50 | with_reducible apply Box.set51 | with_reducible apply Box.set52 | with_reducible apply Box.set53 | with_reducible apply Box.set54 | with_reducible apply Box.drew | (with_reducible apply Box.newAt; (try simp only [World.size_alloc, World.size_setCell, World.size_drew]); done) | with_reducible apply Box.alloc | (with_reducible apply Box.other; case hne => ((try simp only [World.size_alloc, World.size_setCell, World.size_drew]); omega)))), (by repeat (first | with_reducible assumption | with_reducible apply Box.set10 | with_reducible apply Box.set20 | with_reducible apply Box.set21 | with_reducible apply Box.set40 | with_reducible apply Box.set41 | with_reducible apply Box.set42 | with_reducible apply Box.set43 | with_reducible apply Box.set50 | with_reducible apply Box.set51 | with_reducible apply Box.set52 | with_reducible apply Box.set53 | with_reducible apply Box.set54 | with_reducible apply Box.drew | (with_reducible apply Box.newAt; (try simp only [World.size_alloc, World.size_setCell, World.size_drew]); done) | with_reducible apply Box.alloc | (with_reducible apply Box.other; case hne => ((try simp only [World.size_alloc, World.size_setCell, World.size_drew]); omega))))⟩) ?_
  clear hk
  clear X1 X1l1 X1l2 X1l3 X1f X10 X11
  clear X2 X2l1 X2l2 X2l3 X2f X20 X21
  intro ρ
  simp only [List.take_succ_cons, List.take_zero, List.drop_succ_cons, List.drop_zero]
  refine ⟨?_, ?_⟩
  · as_aux_lemma =>
    intro y_ hS_ hD
    have hS := hS_ (by rfl)
    have Q := (hS.2.2.1).cell
    have q0 := Q 0 _ rfl
    have q1 := Q 1 _ rfl
    clear Q hS hS_ hD
    refine s_gen (V := bitsV R) [.pointer (some ⟨w.heap.size, 0, none⟩)] (by kernel_rfl) (by kernel_rfl) (by kernel_rfl) ?_
    intro r_ hr_
    have o0_ : r_ (.tmp 4) = .pointer (some ⟨w.heap.size, 0, none⟩) := op_at hr_ 0 (by kernel_rfl) (by kernel_rfl)
    clear hr_
    go_simp; first | done | with_reducible rfl
  simp only [Act.put, planVG, List.setIfInBounds_toArray, List.set_cons_zero, List.set_cons_succ, List.getElem?_cons_zero, List.getElem?_cons_succ]
  refine ⟨?_, ?_⟩
  · as_aux_lemma =>
    intro y_ hS_ hD
    clear hS_ hD
    refine s_gen (V := .int .i64 (n % 3000)) [.int .i64 (n % 3000)] (by kernel_rfl) (by kernel_rfl) (by kernel_rfl) ?_
    intro r_ hr_
    have o0_ : r_ (.tmp 9) = .int .i64 (n % 3000) := op_at hr_ 0 (by kernel_rfl) (by kernel_rfl)
    clear hr_
    go_simp; first | done | with_reducible rfl
  simp only [Act.put, planVG, List.setIfInBounds_toArray, List.set_cons_zero, List.set_cons_succ, List.getElem?_cons_zero, List.getElem?_cons_succ]
  refine ⟨?_, ?_⟩
  · as_aux_lemma =>
    intro y_ hS_ hD
    clear hS_ hD
    refine s_gen (V := .int .i64 (m % 3000)) [.int .i64 (m % 3000)] (by kernel_rfl) (by kernel_rfl) (by kernel_rfl) ?_
    intro r_ hr_
    have o0_ : r_ (.tmp 10) = .int .i64 (m % 3000) := op_at hr_ 0 (by kernel_rfl) (by kernel_rfl)
    clear hr_
    go_simp; first | done | with_reducible rfl
  simp only [Act.put, planVG, List.setIfInBounds_toArray, List.set_cons_zero, List.set_cons_succ, List.getElem?_cons_zero, List.getElem?_cons_succ]
  refine ⟨?_, ?_⟩
  · as_aux_lemma =>
    intro y_ hS_ hD
    clear hS_ hD
    refine s_gen (V := .int .i64 (n % 3000 + m % 3000)) [.int .i64 (n % 3000), .int .i64 (m % 3000)] (by kernel_rfl) (by kernel_rfl) (by kernel_rfl) ?_
    intro r_ hr_
    have o0_ : r_ (.tmp 59) = .int .i64 (n % 3000) := op_at hr_ 0 (by kernel_rfl) (by kernel_rfl)
    have o1_ : r_ (.tmp 60) = .int .i64 (m % 3000) := op_at hr_ 1 (by kernel_rfl) (by kernel_rfl)
    clear hr_
    go_simp; first | done | with_reducible rfl
  simp only [Act.put, planVG, List.setIfInBounds_toArray, List.set_cons_zero, List.set_cons_succ, List.getElem?_cons_zero, List.getElem?_cons_succ]
  refine ⟨?_, ?_⟩
  · as_aux_lemma =>
    intro y_ hS_ hD
    have hS := hS_ (by rfl)
    have Q := (hS.2.2.2.1).cell
    have q0 := Q 0 _ rfl
    have q1 := Q 1 _ rfl
    clear Q hS hS_ hD
    refine s_gen (V := bitsV D) [.pointer (some ⟨w.heap.size + 1, 0, none⟩)] (by kernel_rfl) (by kernel_rfl) (by kernel_rfl) ?_
    intro r_ hr_
    have o0_ : r_ (.tmp 7) = .pointer (some ⟨w.heap.size + 1, 0, none⟩) := op_at hr_ 0 (by kernel_rfl) (by kernel_rfl)
    clear hr_
    go_simp; first | done | with_reducible rfl
  simp only [Act.put, planVG, List.setIfInBounds_toArray, List.set_cons_zero, List.set_cons_succ, List.getElem?_cons_zero, List.getElem?_cons_succ]
  refine ⟨?_, ?_⟩
  · as_aux_lemma =>
    intro y_ hS_ hD
    try clear hS
    clear hS_ hD
    refine s_gcall (V := .tuple #[bitsV (farN R D ((n % 3000).toNat + (m % 3000).toNat)), .bool (oddF R D ((n % 3000).toNat + (m % 3000).toNat)), .bool true]) [.func (.func 38) #[] #[], bitsV R, .int .i64 (n % 3000 + m % 3000), bitsV D] ?_ ?_ (by kernel_rfl) (by kernel_rfl) (by kernel_rfl) ?_ ?_
    rotate_left 2
    · intro r_ hr_
      have o0_ : r_ (.func 38) = .func (.func 38) #[] #[] := op_at hr_ 0 (by kernel_rfl) (by kernel_rfl)
      have o1_ : r_ (.tmp 58) = bitsV R := op_at hr_ 1 (by kernel_rfl) (by kernel_rfl)
      have o2_ : r_ (.tmp 61) = .int .i64 (n % 3000 + m % 3000) := op_at hr_ 2 (by kernel_rfl) (by kernel_rfl)
      have o3_ : r_ (.tmp 62) = bitsV D := op_at hr_ 3 (by kernel_rfl) (by kernel_rfl)
      clear hr_
      go_simp; first | done | with_reducible rfl | (constructor <;> with_reducible rfl)
    · refine Mod_at (IsBits.of hR) (IsBits.of hD) h ((n % 3000).toNat + (m % 3000).toNat) (z := n % 3000 + m % 3000) (by omega) (by omega) _
  simp only [Act.put, planVG, List.setIfInBounds_toArray, List.set_cons_zero, List.set_cons_succ, List.getElem?_cons_zero, List.getElem?_cons_succ]
  refine ⟨?_, ?_⟩
  · as_aux_lemma =>
    intro y_ hS_ hD
    clear hS_ hD
    refine s_gen (V := .tuple #[bitsV (farN R D ((n % 3000).toNat + (m % 3000).toNat)), .bool (oddF R D ((n % 3000).toNat + (m % 3000).toNat)), .bool true]) [.tuple #[bitsV (farN R D ((n % 3000).toNat + (m % 3000).toNat)), .bool (oddF R D ((n % 3000).toNat + (m % 3000).toNat)), .bool true]] (by kernel_rfl) (by kernel_rfl) (by kernel_rfl) ?_
    intro r_ hr_
    have o0_ : r_ (.tmp 63) = .tuple #[bitsV (farN R D ((n % 3000).toNat + (m % 3000).toNat)), .bool (oddF R D ((n % 3000).toNat + (m % 3000).toNat)), .bool true] := op_at hr_ 0 (by kernel_rfl) (by kernel_rfl)
    clear hr_
    go_simp; first | done | with_reducible rfl
  simp only [Act.put, planVG, List.setIfInBounds_toArray, List.set_cons_zero, List.set_cons_succ, List.getElem?_cons_zero, List.getElem?_cons_succ]
  refine ⟨?_, ?_⟩
  · as_aux_lemma =>
    intro y_ hS_ hD
    clear hS_ hD
    refine s_gen (V := bitsV (farN R D ((n % 3000).toNat + (m % 3000).toNat))) [.tuple #[bitsV (farN R D ((n % 3000).toNat + (m % 3000).toNat)), .bool (oddF R D ((n % 3000).toNat + (m % 3000).toNat)), .bool true]] (by kernel_rfl) (by kernel_rfl) (by kernel_rfl) ?_
    intro r_ hr_
    have o0_ : r_ (.tmp 57) = .tuple #[bitsV (farN R D ((n % 3000).toNat + (m % 3000).toNat)), .bool (oddF R D ((n % 3000).toNat + (m % 3000).toNat)), .bool true] := op_at hr_ 0 (by kernel_rfl) (by kernel_rfl)
    clear hr_
    go_simp; first | done | with_reducible rfl
  simp only [Act.put, planVG, List.setIfInBounds_toArray, List.set_cons_zero, List.set_cons_succ, List.getElem?_cons_zero, List.getElem?_cons_succ]
  refine ⟨?_, ?_⟩
  · as_aux_lemma =>
    intro y_ hS_ hD
    clear hS_ hD
    refine s_gen (V := .bool (oddF R D ((n % 3000).toNat + (m % 3000).toNat))) [.tuple #[bitsV (farN R D ((n % 3000).toNat + (m % 3000).toNat)), .bool (oddF R D ((n % 3000).toNat + (m % 3000).toNat)), .bool true]] (by kernel_rfl) (by kernel_rfl) (by kernel_rfl) ?_
    intro r_ hr_
    have o0_ : r_ (.tmp 57) = .tuple #[bitsV (farN R D ((n % 3000).toNat + (m % 3000).toNat)), .bool (oddF R D ((n % 3000).toNat + (m % 3000).toNat)), .bool true] := op_at hr_ 0 (by kernel_rfl) (by kernel_rfl)
    clear hr_
    go_simp; first | done | with_reducible rfl
  simp only [Act.put, planVG, List.setIfInBounds_toArray, List.set_cons_zero, List.set_cons_succ, List.getElem?_cons_zero, List.getElem?_cons_succ]
  refine ⟨?_, ?_⟩
  · as_aux_lemma =>
    intro y_ hS_ hD
    clear hS_ hD
    refine s_gen (V := .bool true) [.tuple #[bitsV (farN R D ((n % 3000).toNat + (m % 3000).toNat)), .bool (oddF R D ((n % 3000).toNat + (m % 3000).toNat)), .bool true]] (by kernel_rfl) (by kernel_rfl) (by kernel_rfl) ?_
    intro r_ hr_
    have o0_ : r_ (.tmp 57) = .tuple #[bitsV (farN R D ((n % 3000).toNat + (m % 3000).toNat)), .bool (oddF R D ((n % 3000).toNat + (m % 3000).toNat)), .bool true] := op_at hr_ 0 (by kernel_rfl) (by kernel_rfl)
    clear hr_
    go_simp; first | done | with_reducible rfl
  simp only [Act.put, planVG, List.setIfInBounds_toArray, List.set_cons_zero, List.set_cons_succ, List.getElem?_cons_zero, List.getElem?_cons_succ]
  refine ⟨?_, ?_⟩
  · as_aux_lemma =>
    intro y_ hS_ hD
    clear hS_ hD
    refine s_alloc (by rfl) (by rfl) ?_
    simp only [allocTy]
    go_simp; first | done | with_reducible rfl | rfl
  simp only [Act.put, planVG, List.setIfInBounds_toArray, List.set_cons_zero, List.set_cons_succ, List.getElem?_cons_zero, List.getElem?_cons_succ]
  refine ⟨?_, ?_⟩
  · as_aux_lemma =>
    intro y_ hS_ hD
    have hS := hS_ (by rfl)
    clear hS hS_ hD
    refine s_gput (j := 10) (Z := #[.int .u64 0, .int .u64 0]) (V := [.int .u64 (limb 1 (farN R D ((n % 3000).toNat + (m % 3000).toNat))), .int .u64 (limb 0 (farN R D ((n % 3000).toNat + (m % 3000).toNat)))]) [ρ 10, bitsV (farN R D ((n % 3000).toNat + (m % 3000).toNat))] (by kernel_rfl) (by kernel_rfl) (by kernel_rfl) (by kernel_rfl) ?_
    intro r_ b hr_ hb hB F
    have o0_ : r_ (.tmp 17) = ρ 10 := op_at hr_ 0 (by kernel_rfl) (by kernel_rfl)
    have o1_ : r_ (.tmp 64) = bitsV (farN R D ((n % 3000).toNat + (m % 3000).toNat)) := op_at hr_ 1 (by kernel_rfl) (by kernel_rfl)
    clear hr_
    rw [hb] at o0_
    have Q := F.cell
    have q0 := Q 0 _ rfl
    have q1 := Q 1 _ rfl
    have Qf := F.free
    have Ql := F.lt
    clear Q F
    simp only [putCells]
    go_simp; first | done | with_reducible rfl | rfl
  simp only [Act.put, planVG, List.setIfInBounds_toArray, List.set_cons_zero, List.set_cons_succ, List.getElem?_cons_zero, List.getElem?_cons_succ]
  refine ⟨?_, ?_⟩
  · as_aux_lemma =>
    intro y_ hS_ hD
    clear hS_ hD
    refine s_gen (V := .bool (oddF R D ((n % 3000).toNat + (m % 3000).toNat))) [.bool (oddF R D ((n % 3000).toNat + (m % 3000).toNat))] (by kernel_rfl) (by kernel_rfl) (by kernel_rfl) ?_
    intro r_ hr_
    have o0_ : r_ (.tmp 65) = .bool (oddF R D ((n % 3000).toNat + (m % 3000).toNat)) := op_at hr_ 0 (by kernel_rfl) (by kernel_rfl)
    clear hr_
    go_simp; first | done | with_reducible rfl
  simp only [Act.put, planVG, List.setIfInBounds_toArray, List.set_cons_zero, List.set_cons_succ, List.getElem?_cons_zero, List.getElem?_cons_succ]
  as_aux_lemma =>
    intro w4 hS hF hD_
    change wpList _ _ _ _ _ _
    replace hS := sg_no (by decide) hS
    obtain ⟨hk, hZ4, X1, X2, X4⟩ := hS
    obtain ⟨v6_10, e_v6_10, hv6_10, Bv6_10⟩ : ∃ b, ρ 10 = .pointer (some ⟨b, 0, none⟩) ∧ w3.heap.size + 1 ≤ b ∧ Box w4 b #[.int .u64 (limb 1 (farN R D ((n % 3000).toNat + (m % 3000).toNat))), .int .u64 (limb 0 (farN R D ((n % 3000).toNat + (m % 3000).toNat)))] := by
      obtain ⟨b, h1, h2, h3⟩ := hF 10 (by decide)
      exact ⟨b, h1, h2, h3.lt, h3.cell, h3.free⟩
    clear hF hD_
    simp only [e_v6_10]
    clear e_v6_10
    clear ρ
    have hz_w4 := hk.size
    have X1l := X1.lt
    have X1f := X1.free
    have X1l1 : w.heap.size < w4.heap.size + 1 := by omega
    have X1l2 : w.heap.size < w4.heap.size + 1 + 1 := by omega
    have X1l3 : w.heap.size < w4.heap.size + 1 + 1 + 1 := by omega
    have X10 := X1.cell 0 _ rfl
    have X11 := X1.cell 1 _ rfl
    have X2l := X2.lt
    have X2f := X2.free
    have X2l1 : w.heap.size + 1 < w4.heap.size + 1 := by omega
    have X2l2 : w.heap.size + 1 < w4.heap.size + 1 + 1 := by omega
    have X2l3 : w.heap.size + 1 < w4.heap.size + 1 + 1 + 1 := by omega
    have X20 := X2.cell 0 _ rfl
    have X21 := X2.cell 1 _ rfl
    have X4l := X4.lt
    have X4f := X4.free
    have X4l1 : w3.heap.size < w4.heap.size + 1 := by omega
    have X4l2 : w3.heap.size < w4.heap.size + 1 + 1 := by omega
    have X4l3 : w3.heap.size < w4.heap.size + 1 + 1 + 1 := by omega
    have X40 := X4.cell 0 _ rfl
    have X41 := X4.cell 1 _ rfl
    have Bv6_10l := Bv6_10.lt
    have Bv6_10f := Bv6_10.free
    have Bv6_10l1 : v6_10 < w4.heap.size + 1 := by omega
    have Bv6_10l2 : v6_10 < w4.heap.size + 1 + 1 := by omega
    have Bv6_10l3 : v6_10 < w4.heap.size + 1 + 1 + 1 := by omega
    have Bv6_100 := Bv6_10.cell 0 _ rfl
    have Bv6_101 := Bv6_10.cell 1 _ rfl
    go_wp2
    refine wp_region_g 14 (fun W' => Kept w.heap.size w W' ∧ w4.heap.size ≤ W'.heap.size ∧ Box W' (w.heap.size) #[.int .u64 (limb 1 R), .int .u64 (limb 0 R)] ∧ Box W' (w.heap.size + 1) #[.int .u64 (limb 1 D), .int .u64 (limb 0 D)]) (fun W' => Kept w.heap.size w W' ∧ w4.heap.size ≤ W'.heap.size ∧ Box W' (w.heap.size) #[.int .u64 (limb 1 R), .int .u64 (limb 0 R)] ∧ Box W' (w.heap.size + 1) #[.int .u64 (limb 1 D), .int .u64 (limb 0 D)]) 1000 (w4.heap.size) [.known (bitsV R), .known (wideV R), .known (.int .i64 (n % 3000)), .known (wideV (left256 R (n % 3000))), .known (bitsV D), .known (.tuple #[wideV (divN (left256 R (n % 3000)) D), bitsV (farN R D (n % 3000).toNat), .bool true]), .known (.tuple #[wideV (divN (left256 R (n % 3000)) D), bitsV (farN R D (n % 3000).toNat), .bool true]), .known (wideV (divN (left256 R (n % 3000)) D)), .known (bitsV (farN R D (n % 3000).toNat)), .known (.bool true), .var #[.int .u64 0, .int .u64 0, .int .u64 0, .int .u64 0] 12 [.int .u64 (limb 0 (divN (left256 R (n % 3000)) D)), .int .u64 (limb 1 (divN (left256 R (n % 3000)) D)), .int .u64 (limb 2 (divN (left256 R (n % 3000)) D)), .int .u64 (limb 3 (divN (left256 R (n % 3000)) D))], .var #[.int .u64 0, .int .u64 0] 13 [.int .u64 (limb 1 (farN R D (n % 3000).toNat)), .int .u64 (limb 0 (farN R D (n % 3000).toNat))], .put 10, .put 11] (by kernel_rfl) (by kernel_rfl) (fun W W' h hb => ⟨h.1.step hb, Nat.le_trans (h.2.1) hb.size, Box.call hb (h.2.2.1), Box.call hb (h.2.2.2)⟩) (fun W W' h hb => ⟨h.1.step hb, Nat.le_trans (h.2.1) hb.size, Box.call hb (h.2.2.1), Box.call hb (h.2.2.2)⟩) (no_out (of_decide_eq_true (by kernel_rfl))) (.inr (fun W' b i v hb h => ⟨h.1.setCell (p := ⟨b, i, none⟩) (by simp only []; omega) v, (by rw [World.size_setCell]; exact h.2.1), (h.2.2.1).other (by omega), (h.2.2.2).other (by omega)⟩)) (.inr (fun W' b i v hb h => ⟨h.1.setCell (p := ⟨b, i, none⟩) (by simp only []; omega) v, (by rw [World.size_setCell]; exact h.2.1), (h.2.2.1).other (by omega), (h.2.2.2).other (by omega)⟩)) (fun _ h => h.2.1) (fun _ h => h.2.1) (⟨(by repeat (first | with_reducible exact hk | with_reducible exact Kept.refl _ | with_reducible refine Kept.alloc ?_ _ | with_reducible refine Kept.drew ?_ | with_reducible refine Kept.setCell ?_ (by simp only [World.size_alloc, World.size_setCell, World.size_drew]; omega) _)), (by (try simp only [World.size_alloc, World.size_setCell, World.size_drew]); omega), (by repeat (first | with_reducible assumption | with_reducible apply Box.set10 | with_reducible apply Box.set20 | with_reducible apply Box.set21 | with_reducible apply Box.set40 | with_reducible apply Box.set41 | with_reducible apply Box.set42 | with_reducible apply Box.set43 | with_reducible apply Box.set50 | with_reducible apply Box.set51 | with_reducible apply Box.set52 | with_reducible apply Box.set53 | with_reducible apply Box.set54 | with_reducible apply Box.drew | (with_reducible apply Box.newAt; (try simp only [World.size_alloc, World.size_setCell, World.size_drew]); done) | with_reducible apply Box.alloc | (with_reducible apply Box.other; case hne => ((try simp only [World.size_alloc, World.size_setCell, World.size_drew]); omega)))), (by repeat (first | with_reducible assumption | with_reducible apply Box.set10 | with_reducible apply Box.set20 | with_reducible apply Box.set21 | with_reducible apply Box.set40 | with_reducible apply Box.set41 | with_reducible apply Box.set42 | with_reducible apply Box.set43 | with_reducible apply Box.set50 | with_reducible apply Box.set51 | with_reducible apply Box.set52 | with_reducible apply Box.set53 | with_reducible apply Box.set54 | with_reducible apply Box.drew | (with_reducible apply Box.newAt; (try simp only [World.size_alloc, World.size_setCell, World.size_drew]); done) | with_reducible apply Box.alloc | (with_reducible apply Box.other; case hne => ((try simp only [World.size_alloc, World.size_setCell, World.size_drew]); omega))))⟩) ?_
    clear hk
    clear X1 X1l1 X1l2 X1l3 X1f X10 X11
    clear X2 X2l1 X2l2 X2l3 X2f X20 X21
    clear X4 X4l1 X4l2 X4l3 X4f X40 X41
    clear Bv6_10 Bv6_10l1 Bv6_10l2 Bv6_10l3 Bv6_10f Bv6_100 Bv6_101
    intro ρ
    simp only [List.take_succ_cons, List.take_zero, List.drop_succ_cons, List.drop_zero]
    refine ⟨?_, ?_⟩
    · as_aux_lemma =>
      intro y_ hS_ hD
      have hS := hS_ (by rfl)
      have Q := (hS.2.2.1).cell
      have q0 := Q 0 _ rfl
      have q1 := Q 1 _ rfl
      clear Q hS hS_ hD
      refine s_gen (V := bitsV R) [.pointer (some ⟨w.heap.size, 0, none⟩)] (by kernel_rfl) (by kernel_rfl) (by kernel_rfl) ?_
      intro r_ hr_
      have o0_ : r_ (.tmp 4) = .pointer (some ⟨w.heap.size, 0, none⟩) := op_at hr_ 0 (by kernel_rfl) (by kernel_rfl)
      clear hr_
      go_simp; first | done | with_reducible rfl
    simp only [Act.put, planVG, List.setIfInBounds_toArray, List.set_cons_zero, List.set_cons_succ, List.getElem?_cons_zero, List.getElem?_cons_succ]
    refine ⟨?_, ?_⟩
    · as_aux_lemma =>
      intro y_ hS_ hD
      try clear hS
      clear hS_ hD
      refine s_gcall (V := wideV R) [.func (.func 44) #[] #[], bitsV R] ?_ ?_ (by kernel_rfl) (by kernel_rfl) (by kernel_rfl) ?_ ?_
      rotate_left 2
      · intro r_ hr_
        have o0_ : r_ (.func 44) = .func (.func 44) #[] #[] := op_at hr_ 0 (by kernel_rfl) (by kernel_rfl)
        have o1_ : r_ (.tmp 95) = bitsV R := op_at hr_ 1 (by kernel_rfl) (by kernel_rfl)
        clear hr_
        go_simp; first | done | with_reducible rfl | (constructor <;> with_reducible rfl)
      · refine Of_at (IsBits.of hR) _
    simp only [Act.put, planVG, List.setIfInBounds_toArray, List.set_cons_zero, List.set_cons_succ, List.getElem?_cons_zero, List.getElem?_cons_succ]
    refine ⟨?_, ?_⟩
    · as_aux_lemma =>
      intro y_ hS_ hD
      clear hS_ hD
      refine s_gen (V := .int .i64 (n % 3000)) [.int .i64 (n % 3000)] (by kernel_rfl) (by kernel_rfl) (by kernel_rfl) ?_
      intro r_ hr_
      have o0_ : r_ (.tmp 9) = .int .i64 (n % 3000) := op_at hr_ 0 (by kernel_rfl) (by kernel_rfl)
      clear hr_
      go_simp; first | done | with_reducible rfl
    simp only [Act.put, planVG, List.setIfInBounds_toArray, List.set_cons_zero, List.set_cons_succ, List.getElem?_cons_zero, List.getElem?_cons_succ]
    refine ⟨?_, ?_⟩
    · as_aux_lemma =>
      intro y_ hS_ hD
      try clear hS
      clear hS_ hD
      refine s_gcall (V := wideV (left256 R (n % 3000))) [.func (.func 43) #[] #[], wideV R, .int .i64 (n % 3000)] ?_ ?_ (by kernel_rfl) (by kernel_rfl) (by kernel_rfl) ?_ ?_
      rotate_left 2
      · intro r_ hr_
        have o0_ : r_ (.func 43) = .func (.func 43) #[] #[] := op_at hr_ 0 (by kernel_rfl) (by kernel_rfl)
        have o1_ : r_ (.tmp 96) = wideV R := op_at hr_ 1 (by kernel_rfl) (by kernel_rfl)
        have o2_ : r_ (.tmp 97) = .int .i64 (n % 3000) := op_at hr_ 2 (by kernel_rfl) (by kernel_rfl)
        clear hr_
        go_simp; first | done | with_reducible rfl | (constructor <;> with_reducible rfl)
      · refine WideLeft_at (IsWide.of (w128_256 (IsBits.of hR).w)) (n % 3000) (by omega) (by omega) _
    simp only [Act.put, planVG, List.setIfInBounds_toArray, List.set_cons_zero, List.set_cons_succ, List.getElem?_cons_zero, List.getElem?_cons_succ]
    refine ⟨?_, ?_⟩
    · as_aux_lemma =>
      intro y_ hS_ hD
      have hS := hS_ (by rfl)
      have Q := (hS.2.2.2).cell
      have q0 := Q 0 _ rfl
      have q1 := Q 1 _ rfl
      clear Q hS hS_ hD
      refine s_gen (V := bitsV D) [.pointer (some ⟨w.heap.size + 1, 0, none⟩)] (by kernel_rfl) (by kernel_rfl) (by kernel_rfl) ?_
      intro r_ hr_
      have o0_ : r_ (.tmp 7) = .pointer (some ⟨w.heap.size + 1, 0, none⟩) := op_at hr_ 0 (by kernel_rfl) (by kernel_rfl)
      clear hr_
      go_simp; first | done | with_reducible rfl
    simp only [Act.put, planVG, List.setIfInBounds_toArray, List.set_cons_zero, List.set_cons_succ, List.getElem?_cons_zero, List.getElem?_cons_succ]
    refine ⟨?_, ?_⟩
    · as_aux_lemma =>
      intro y_ hS_ hD
      try clear hS
      clear hS_ hD
      refine s_gcall (V := .tuple #[wideV (divN (left256 R (n % 3000)) D), bitsV (farN R D (n % 3000).toNat), .bool true]) [.func (.func 34) #[] #[], wideV (left256 R (n % 3000)), bitsV D] ?_ ?_ (by kernel_rfl) (by kernel_rfl) (by kernel_rfl) ?_ ?_
      rotate_left 2
      · intro r_ hr_
        have o0_ : r_ (.func 34) = .func (.func 34) #[] #[] := op_at hr_ 0 (by kernel_rfl) (by kernel_rfl)
        have o1_ : r_ (.tmp 98) = wideV (left256 R (n % 3000)) := op_at hr_ 1 (by kernel_rfl) (by kernel_rfl)
        have o2_ : r_ (.tmp 99) = bitsV D := op_at hr_ 2 (by kernel_rfl) (by kernel_rfl)
        clear hr_
        go_simp; first | done | with_reducible rfl | (constructor <;> with_reducible rfl)
      · refine calls_to (V := .tuple #[wideV (divN (left256 R (n % 3000)) D), bitsV (farN R D (n % 3000).toNat), .bool true]) (Div_at (IsWide.of (left_w _ _)) (IsBits.of hD) HP _) (by rw [EL.out])
    simp only [Act.put, planVG, List.setIfInBounds_toArray, List.set_cons_zero, List.set_cons_succ, List.getElem?_cons_zero, List.getElem?_cons_succ]
    refine ⟨?_, ?_⟩
    · as_aux_lemma =>
      intro y_ hS_ hD
      clear hS_ hD
      refine s_gen (V := .tuple #[wideV (divN (left256 R (n % 3000)) D), bitsV (farN R D (n % 3000).toNat), .bool true]) [.tuple #[wideV (divN (left256 R (n % 3000)) D), bitsV (farN R D (n % 3000).toNat), .bool true]] (by kernel_rfl) (by kernel_rfl) (by kernel_rfl) ?_
      intro r_ hr_
      have o0_ : r_ (.tmp 100) = .tuple #[wideV (divN (left256 R (n % 3000)) D), bitsV (farN R D (n % 3000).toNat), .bool true] := op_at hr_ 0 (by kernel_rfl) (by kernel_rfl)
      clear hr_
      go_simp; first | done | with_reducible rfl
    simp only [Act.put, planVG, List.setIfInBounds_toArray, List.set_cons_zero, List.set_cons_succ, List.getElem?_cons_zero, List.getElem?_cons_succ]
    refine ⟨?_, ?_⟩
    · as_aux_lemma =>
      intro y_ hS_ hD
      clear hS_ hD
      refine s_gen (V := wideV (divN (left256 R (n % 3000)) D)) [.tuple #[wideV (divN (left256 R (n % 3000)) D), bitsV (farN R D (n % 3000).toNat), .bool true]] (by kernel_rfl) (by kernel_rfl) (by kernel_rfl) ?_
      intro r_ hr_
      have o0_ : r_ (.tmp 94) = .tuple #[wideV (divN (left256 R (n % 3000)) D), bitsV (farN R D (n % 3000).toNat), .bool true] := op_at hr_ 0 (by kernel_rfl) (by kernel_rfl)
      clear hr_
      go_simp; first | done | with_reducible rfl
    simp only [Act.put, planVG, List.setIfInBounds_toArray, List.set_cons_zero, List.set_cons_succ, List.getElem?_cons_zero, List.getElem?_cons_succ]
    refine ⟨?_, ?_⟩
    · as_aux_lemma =>
      intro y_ hS_ hD
      clear hS_ hD
      refine s_gen (V := bitsV (farN R D (n % 3000).toNat)) [.tuple #[wideV (divN (left256 R (n % 3000)) D), bitsV (farN R D (n % 3000).toNat), .bool true]] (by kernel_rfl) (by kernel_rfl) (by kernel_rfl) ?_
      intro r_ hr_
      have o0_ : r_ (.tmp 94) = .tuple #[wideV (divN (left256 R (n % 3000)) D), bitsV (farN R D (n % 3000).toNat), .bool true] := op_at hr_ 0 (by kernel_rfl) (by kernel_rfl)
      clear hr_
      go_simp; first | done | with_reducible rfl
    simp only [Act.put, planVG, List.setIfInBounds_toArray, List.set_cons_zero, List.set_cons_succ, List.getElem?_cons_zero, List.getElem?_cons_succ]
    refine ⟨?_, ?_⟩
    · as_aux_lemma =>
      intro y_ hS_ hD
      clear hS_ hD
      refine s_gen (V := .bool true) [.tuple #[wideV (divN (left256 R (n % 3000)) D), bitsV (farN R D (n % 3000).toNat), .bool true]] (by kernel_rfl) (by kernel_rfl) (by kernel_rfl) ?_
      intro r_ hr_
      have o0_ : r_ (.tmp 94) = .tuple #[wideV (divN (left256 R (n % 3000)) D), bitsV (farN R D (n % 3000).toNat), .bool true] := op_at hr_ 0 (by kernel_rfl) (by kernel_rfl)
      clear hr_
      go_simp; first | done | with_reducible rfl
    simp only [Act.put, planVG, List.setIfInBounds_toArray, List.set_cons_zero, List.set_cons_succ, List.getElem?_cons_zero, List.getElem?_cons_succ]
    refine ⟨?_, ?_⟩
    · as_aux_lemma =>
      intro y_ hS_ hD
      clear hS_ hD
      refine s_alloc (by rfl) (by rfl) ?_
      simp only [allocTy]
      go_simp; first | done | with_reducible rfl | rfl
    simp only [Act.put, planVG, List.setIfInBounds_toArray, List.set_cons_zero, List.set_cons_succ, List.getElem?_cons_zero, List.getElem?_cons_succ]
    refine ⟨?_, ?_⟩
    · as_aux_lemma =>
      intro y_ hS_ hD
      clear hS_ hD
      refine s_alloc (by rfl) (by rfl) ?_
      simp only [allocTy]
      go_simp; first | done | with_reducible rfl | rfl
    simp only [Act.put, planVG, List.setIfInBounds_toArray, List.set_cons_zero, List.set_cons_succ, List.getElem?_cons_zero, List.getElem?_cons_succ]
    refine ⟨?_, ?_⟩
    · as_aux_lemma =>
      intro y_ hS_ hD
      have hS := hS_ (by rfl)
      clear hS hS_ hD
      refine s_gput (j := 10) (Z := #[.int .u64 0, .int .u64 0, .int .u64 0, .int .u64 0]) (V := [.int .u64 (limb 0 (divN (left256 R (n % 3000)) D)), .int .u64 (limb 1 (divN (left256 R (n % 3000)) D)), .int .u64 (limb 2 (divN (left256 R (n % 3000)) D)), .int .u64 (limb 3 (divN (left256 R (n % 3000)) D))]) [ρ 10, wideV (divN (left256 R (n % 3000)) D)] (by kernel_rfl) (by kernel_rfl) (by kernel_rfl) (by kernel_rfl) ?_
      intro r_ b hr_ hb hB F
      have o0_ : r_ (.tmp 20) = ρ 10 := op_at hr_ 0 (by kernel_rfl) (by kernel_rfl)
      have o1_ : r_ (.tmp 101) = wideV (divN (left256 R (n % 3000)) D) := op_at hr_ 1 (by kernel_rfl) (by kernel_rfl)
      clear hr_
      rw [hb] at o0_
      have Q := F.cell
      have q0 := Q 0 _ rfl
      have q1 := Q 1 _ rfl
      have q2 := Q 2 _ rfl
      have q3 := Q 3 _ rfl
      have Qf := F.free
      have Ql := F.lt
      clear Q F
      simp only [putCells]
      go_simp; first | done | with_reducible rfl | rfl
    simp only [Act.put, planVG, List.setIfInBounds_toArray, List.set_cons_zero, List.set_cons_succ, List.getElem?_cons_zero, List.getElem?_cons_succ]
    refine ⟨?_, ?_⟩
    · as_aux_lemma =>
      intro y_ hS_ hD
      have hS := hS_ (by rfl)
      clear hS hS_ hD
      refine s_gput (j := 11) (Z := #[.int .u64 0, .int .u64 0]) (V := [.int .u64 (limb 1 (farN R D (n % 3000).toNat)), .int .u64 (limb 0 (farN R D (n % 3000).toNat))]) [ρ 11, bitsV (farN R D (n % 3000).toNat)] (by kernel_rfl) (by kernel_rfl) (by kernel_rfl) (by kernel_rfl) ?_
      intro r_ b hr_ hb hB F
      have o0_ : r_ (.tmp 21) = ρ 11 := op_at hr_ 0 (by kernel_rfl) (by kernel_rfl)
      have o1_ : r_ (.tmp 102) = bitsV (farN R D (n % 3000).toNat) := op_at hr_ 1 (by kernel_rfl) (by kernel_rfl)
      clear hr_
      rw [hb] at o0_
      have Q := F.cell
      have q0 := Q 0 _ rfl
      have q1 := Q 1 _ rfl
      have Qf := F.free
      have Ql := F.lt
      clear Q F
      simp only [putCells]
      go_simp; first | done | with_reducible rfl | rfl
    simp only [Act.put, planVG, List.setIfInBounds_toArray, List.set_cons_zero, List.set_cons_succ, List.getElem?_cons_zero, List.getElem?_cons_succ]
    as_aux_lemma =>
      intro w5 hS hF hD_
      change wpList _ _ _ _ _ _
      replace hS := sg_no (by decide) hS
      obtain ⟨hk, hZ5, X1, X2⟩ := hS
      obtain ⟨v11_10, e_v11_10, hv11_10, Bv11_10⟩ : ∃ b, ρ 10 = .pointer (some ⟨b, 0, none⟩) ∧ w4.heap.size ≤ b ∧ Box w5 b #[.int .u64 (limb 0 (divN (left256 R (n % 3000)) D)), .int .u64 (limb 1 (divN (left256 R (n % 3000)) D)), .int .u64 (limb 2 (divN (left256 R (n % 3000)) D)), .int .u64 (limb 3 (divN (left256 R (n % 3000)) D))] := by
        obtain ⟨b, h1, h2, h3⟩ := hF 10 (by decide)
        exact ⟨b, h1, h2, h3.lt, h3.cell, h3.free⟩
      obtain ⟨v11_11, e_v11_11, hv11_11, Bv11_11⟩ : ∃ b, ρ 11 = .pointer (some ⟨b, 0, none⟩) ∧ w4.heap.size ≤ b ∧ Box w5 b #[.int .u64 (limb 1 (farN R D (n % 3000).toNat)), .int .u64 (limb 0 (farN R D (n % 3000).toNat))] := by
        obtain ⟨b, h1, h2, h3⟩ := hF 11 (by decide)
        exact ⟨b, h1, h2, h3.lt, h3.cell, h3.free⟩
      have nv11_10_v11_11 : ¬ v11_10 = v11_11 := fun h => hD_ 10 11 (by decide) (by decide) (by decide) (by rfl) (by rfl) (by rw [e_v11_10, e_v11_11, h])
      have nv11_11_v11_10 : ¬ v11_11 = v11_10 := fun h => nv11_10_v11_11 h.symm
      clear hF hD_
      simp only [e_v11_10]
      clear e_v11_10
      simp only [e_v11_11]
      clear e_v11_11
      clear ρ
      have hz_w5 := hk.size
      have X1l := X1.lt
      have X1f := X1.free
      have X1l1 : w.heap.size < w5.heap.size + 1 := by omega
      have X1l2 : w.heap.size < w5.heap.size + 1 + 1 := by omega
      have X1l3 : w.heap.size < w5.heap.size + 1 + 1 + 1 := by omega
      have X10 := X1.cell 0 _ rfl
      have X11 := X1.cell 1 _ rfl
      have X2l := X2.lt
      have X2f := X2.free
      have X2l1 : w.heap.size + 1 < w5.heap.size + 1 := by omega
      have X2l2 : w.heap.size + 1 < w5.heap.size + 1 + 1 := by omega
      have X2l3 : w.heap.size + 1 < w5.heap.size + 1 + 1 + 1 := by omega
      have X20 := X2.cell 0 _ rfl
      have X21 := X2.cell 1 _ rfl
      have Bv11_10l := Bv11_10.lt
      have Bv11_10f := Bv11_10.free
      have Bv11_10l1 : v11_10 < w5.heap.size + 1 := by omega
      have Bv11_10l2 : v11_10 < w5.heap.size + 1 + 1 := by omega
      have Bv11_10l3 : v11_10 < w5.heap.size + 1 + 1 + 1 := by omega
      have Bv11_100 := Bv11_10.cell 0 _ rfl
      have Bv11_101 := Bv11_10.cell 1 _ rfl
      have Bv11_102 := Bv11_10.cell 2 _ rfl
      have Bv11_103 := Bv11_10.cell 3 _ rfl
      have Bv11_11l := Bv11_11.lt
      have Bv11_11f := Bv11_11.free
      have Bv11_11l1 : v11_11 < w5.heap.size + 1 := by omega
      have Bv11_11l2 : v11_11 < w5.heap.size + 1 + 1 := by omega
      have Bv11_11l3 : v11_11 < w5.heap.size + 1 + 1 + 1 := by omega
      have Bv11_110 := Bv11_11.cell 0 _ rfl
      have Bv11_111 := Bv11_11.cell 1 _ rfl
      go_wp2_with fail
      (with_reducible refine (calls_to (V := .tuple #[bitsV (farN R D ((n % 3000).toNat)), .bool false, .bool true]) (Mod_at (IsBits.of hR) (IsBits.of hD) h ((n % 3000).toNat) (z := n % 3000) (by omega) (by omega) _) (by rw [OX.out])).mono ?_)
      rintro e w6 ⟨rfl, hb⟩
      have Bv11_10' : Box w6 (v11_10) #[.int .u64 (limb 0 (divN (left256 R (n % 3000)) D)), .int .u64 (limb 1 (divN (left256 R (n % 3000)) D)), .int .u64 (limb 2 (divN (left256 R (n % 3000)) D)), .int .u64 (limb 3 (divN (left256 R (n % 3000)) D))] := Box.call hb (by repeat (first | with_reducible assumption | with_reducible apply Box.set10 | with_reducible apply Box.set20 | with_reducible apply Box.set21 | with_reducible apply Box.set40 | with_reducible apply Box.set41 | with_reducible apply Box.set42 | with_reducible apply Box.set43 | with_reducible apply Box.set50 | with_reducible apply Box.set51 | with_reducible apply Box.set52 | with_reducible apply Box.set53 | with_reducible apply Box.set54 | with_reducible apply Box.drew | (with_reducible apply Box.newAt; (try simp only [World.size_alloc, World.size_setCell, World.size_drew]); done) | with_reducible apply Box.alloc | (with_reducible apply Box.other; case hne => ((try simp only [World.size_alloc, World.size_setCell, World.size_drew]); omega))))
      have Bv11_11' : Box w6 (v11_11) #[.int .u64 (limb 1 (farN R D (n % 3000).toNat)), .int .u64 (limb 0 (farN R D (n % 3000).toNat))] := Box.call hb (by repeat (first | with_reducible assumption | with_reducible apply Box.set10 | with_reducible apply Box.set20 | with_reducible apply Box.set21 | with_reducible apply Box.set40 | with_reducible apply Box.set41 | with_reducible apply Box.set42 | with_reducible apply Box.set43 | with_reducible apply Box.set50 | with_reducible apply Box.set51 | with_reducible apply Box.set52 | with_reducible apply Box.set53 | with_reducible apply Box.set54 | with_reducible apply Box.drew | (with_reducible apply Box.newAt; (try simp only [World.size_alloc, World.size_setCell, World.size_drew]); done) | with_reducible apply Box.alloc | (with_reducible apply Box.other; case hne => ((try simp only [World.size_alloc, World.size_setCell, World.size_drew]); omega))))
      have hk' : Kept w.heap.size w w6 := Kept.step (by repeat (first | with_reducible exact hk | with_reducible exact Kept.refl _ | with_reducible refine Kept.alloc ?_ _ | with_reducible refine Kept.drew ?_ | with_reducible refine Kept.setCell ?_ (by simp only [World.size_alloc, World.size_setCell, World.size_drew]; omega) _)) hb
      clear hk hb
      clear X1 X1l1 X1l2 X1l3 X1f X10 X11
      clear X2 X2l1 X2l2 X2l3 X2f X20 X21
      clear Bv11_10 Bv11_10l1 Bv11_10l2 Bv11_10l3 Bv11_10f Bv11_100 Bv11_101 Bv11_102 Bv11_103
      clear Bv11_11 Bv11_11l1 Bv11_11l2 Bv11_11l3 Bv11_11f Bv11_110 Bv11_111
      have Bv11_10 := Bv11_10'
      clear Bv11_10'
      have Bv11_11 := Bv11_11'
      clear Bv11_11'
      have hk := hk'
      clear hk'
      have hz_w6 := hk.size
      have Bv11_10l := Bv11_10.lt
      have Bv11_10f := Bv11_10.free
      have Bv11_10l1 : v11_10 < w6.heap.size + 1 := by omega
      have Bv11_10l2 : v11_10 < w6.heap.size + 1 + 1 := by omega
      have Bv11_10l3 : v11_10 < w6.heap.size + 1 + 1 + 1 := by omega
      have Bv11_100 := Bv11_10.cell 0 _ rfl
      have Bv11_101 := Bv11_10.cell 1 _ rfl
      have Bv11_102 := Bv11_10.cell 2 _ rfl
      have Bv11_103 := Bv11_10.cell 3 _ rfl
      have Bv11_11l := Bv11_11.lt
      have Bv11_11f := Bv11_11.free
      have Bv11_11l1 : v11_11 < w6.heap.size + 1 := by omega
      have Bv11_11l2 : v11_11 < w6.heap.size + 1 + 1 := by omega
      have Bv11_11l3 : v11_11 < w6.heap.size + 1 + 1 + 1 := by omega
      have Bv11_110 := Bv11_11.cell 0 _ rfl
      have Bv11_111 := Bv11_11.cell 1 _ rfl
      go_upto_region 13 with fail
      refine wp_region_p 19 (fun W' => Kept w.heap.size w W' ∧ w6.heap.size + 1 ≤ W'.heap.size ∧ Box W' (v11_10) #[.int .u64 (limb 0 (divN (left256 R (n % 3000)) D)), .int .u64 (limb 1 (divN (left256 R (n % 3000)) D)), .int .u64 (limb 2 (divN (left256 R (n % 3000)) D)), .int .u64 (limb 3 (divN (left256 R (n % 3000)) D))] ∧ Box W' (v11_11) #[.int .u64 (limb 1 (farN R D (n % 3000).toNat)), .int .u64 (limb 0 (farN R D (n % 3000).toNat))] ∧ Box W' (w6.heap.size) #[.int .u64 (limb 1 (farN R D ((n % 3000).toNat))), .int .u64 (limb 0 (farN R D ((n % 3000).toNat)))]) (fun W' => Kept w.heap.size w W' ∧ w6.heap.size + 1 ≤ W'.heap.size ∧ Box W' (v11_10) #[.int .u64 (limb 0 (divN (left256 R (n % 3000)) D)), .int .u64 (limb 1 (divN (left256 R (n % 3000)) D)), .int .u64 (limb 2 (divN (left256 R (n % 3000)) D)), .int .u64 (limb 3 (divN (left256 R (n % 3000)) D))] ∧ Box W' (v11_11) #[.int .u64 (limb 1 (farN R D (n % 3000).toNat)), .int .u64 (limb 0 (farN R D (n % 3000).toNat))] ∧ Box W' (w6.heap.size) #[.int .u64 (limb 1 (farN R D ((n % 3000).toNat))), .int .u64 (limb 0 (farN R D ((n % 3000).toNat)))]) 1000 (w6.heap.size + 1) [.known (bitsV (farN R D (n % 3000).toNat)), .known (bitsV (farN R D ((n % 3000).toNat))), .known (.bool true), .known (.bool true), .known (.bool false), .known (.int .i64 (n % 3000)), .known (.bool true), .known (.bool true), .known (.pointer (some ⟨v11_10, 0, none⟩)), .known (.int .u64 (limb 0 (divN (left256 R (n % 3000)) D))), .known (.int .u64 0), .known (.bool false), .known (.bool false), .known (.bool true), .known (.bool true), .known (.bool true), .known (.bool true), .known (.bool true), .known (.bool true)] (by kernel_rfl) (by kernel_rfl) (fun W W' h hb => ⟨h.1.step hb, Nat.le_trans (h.2.1) hb.size, Box.call hb (h.2.2.1), Box.call hb (h.2.2.2.1), Box.call hb (h.2.2.2.2)⟩) (fun W W' h hb => ⟨h.1.step hb, Nat.le_trans (h.2.1) hb.size, Box.call hb (h.2.2.1), Box.call hb (h.2.2.2.1), Box.call hb (h.2.2.2.2)⟩) (no_out (of_decide_eq_true (by kernel_rfl))) (.inl (by kernel_rfl)) (.inl (by kernel_rfl)) (fun _ h => h.2.1) (fun _ h => h.2.1) (⟨(by repeat (first | with_reducible exact hk | with_reducible exact Kept.refl _ | with_reducible refine Kept.alloc ?_ _ | with_reducible refine Kept.drew ?_ | with_reducible refine Kept.setCell ?_ (by simp only [World.size_alloc, World.size_setCell, World.size_drew]; omega) _)), (by (try simp only [World.size_alloc, World.size_setCell, World.size_drew]); omega), (by repeat (first | with_reducible assumption | with_reducible apply Box.set10 | with_reducible apply Box.set20 | with_reducible apply Box.set21 | with_reducible apply Box.set40 | with_reducible apply Box.set41 | with_reducible apply Box.set42 | with_reducible apply Box.set43 | with_reducible apply Box.set50 | with_reducible apply Box.set51 | with_reducible apply Box.set52 | with_reducible apply Box.set53 | with_reducible apply Box.set54 | with_reducible apply Box.drew | (with_reducible apply Box.newAt; (try simp only [World.size_alloc, World.size_setCell, World.size_drew]); done) | with_reducible apply Box.alloc | (with_reducible apply Box.other; case hne => ((try simp only [World.size_alloc, World.size_setCell, World.size_drew]); omega)))), (by repeat (first | with_reducible assumption | with_reducible apply Box.set10 | with_reducible apply Box.set20 | with_reducible apply Box.set21 | with_reducible apply Box.set40 | with_reducible apply Box.set41 | with_reducible apply Box.set42 | with_reducible apply Box.set43 | with_reducible apply Box.set50 | with_reducible apply Box.set51 | with_reducible apply Box.set52 | with_reducible apply Box.set53 | with_reducible apply Box.set54 | with_reducible apply Box.drew | (with_reducible apply Box.newAt; (try simp only [World.size_alloc, World.size_setCell, World.size_drew]); done) | with_reducible apply Box.alloc | (with_reducible apply Box.other; case hne => ((try simp only [World.size_alloc, World.size_setCell, World.size_drew]); omega)))), (by repeat (first | with_reducible assumption | with_reducible apply Box.set10 | with_reducible apply Box.set20 | with_reducible apply Box.set21 | with_reducible apply Box.set40 | with_reducible apply Box.set41 | with_reducible apply Box.set42 | with_reducible apply Box.set43 | with_reducible apply Box.set50 | with_reducible apply Box.set51 | with_reducible apply Box.set52 | with_reducible apply Box.set53 | with_reducible apply Box.set54 | with_reducible apply Box.drew | (with_reducible apply Box.newAt; (try simp only [World.size_alloc, World.size_setCell, World.size_drew]); done) | with_reducible apply Box.alloc | (with_reducible apply Box.other; case hne => ((try simp only [World.size_alloc, World.size_setCell, World.size_drew]); omega))))⟩) ?_
      clear hk
      clear Bv11_10 Bv11_10l1 Bv11_10l2 Bv11_10l3 Bv11_10f Bv11_100 Bv11_101 Bv11_102 Bv11_103
      clear Bv11_11 Bv11_11l1 Bv11_11l2 Bv11_11l3 Bv11_11f Bv11_110 Bv11_111
      intro ρ
      simp only [List.take_succ_cons, List.take_zero, List.drop_succ_cons, List.drop_zero]
      refine ⟨?_, ?_⟩
      · as_aux_lemma =>
        intro y_ hS_ hD
        have hS := hS_ (by rfl)
        have Q := (hS.2.2.2.1).cell
        have q0 := Q 0 _ rfl
        have q1 := Q 1 _ rfl
        clear Q hS hS_ hD
        refine s_gen (V := bitsV (farN R D (n % 3000).toNat)) [.pointer (some ⟨v11_11, 0, none⟩)] (by kernel_rfl) (by kernel_rfl) (by kernel_rfl) ?_
        intro r_ hr_
        have o0_ : r_ (.tmp 21) = .pointer (some ⟨v11_11, 0, none⟩) := op_at hr_ 0 (by kernel_rfl) (by kernel_rfl)
        clear hr_
        go_simp; first | done | with_reducible rfl
      simp only [Act.put, planVG, List.setIfInBounds_toArray, List.set_cons_zero, List.set_cons_succ, List.getElem?_cons_zero, List.getElem?_cons_succ]
      refine ⟨?_, ?_⟩
      · as_aux_lemma =>
        intro y_ hS_ hD
        have hS := hS_ (by rfl)
        have Q := (hS.2.2.2.2).cell
        have q0 := Q 0 _ rfl
        have q1 := Q 1 _ rfl
        clear Q hS hS_ hD
        refine s_gen (V := bitsV (farN R D ((n % 3000).toNat))) [.pointer (some ⟨w6.heap.size, 0, none⟩)] (by kernel_rfl) (by kernel_rfl) (by kernel_rfl) ?_
        intro r_ hr_
        have o0_ : r_ (.tmp 23) = .pointer (some ⟨w6.heap.size, 0, none⟩) := op_at hr_ 0 (by kernel_rfl) (by kernel_rfl)
        clear hr_
        go_simp; first | done | with_reducible rfl
      simp only [Act.put, planVG, List.setIfInBounds_toArray, List.set_cons_zero, List.set_cons_succ, List.getElem?_cons_zero, List.getElem?_cons_succ]
      refine ⟨?_, ?_⟩
      · as_aux_lemma =>
        intro y_ hS_ hD
        clear hS_ hD
        refine s_gen (V := .bool true) [bitsV (farN R D (n % 3000).toNat), bitsV (farN R D ((n % 3000).toNat))] (by kernel_rfl) (by kernel_rfl) (by kernel_rfl) ?_
        intro r_ hr_
        have o0_ : r_ (.tmp 112) = bitsV (farN R D (n % 3000).toNat) := op_at hr_ 0 (by kernel_rfl) (by kernel_rfl)
        have o1_ : r_ (.tmp 113) = bitsV (farN R D ((n % 3000).toNat)) := op_at hr_ 1 (by kernel_rfl) (by kernel_rfl)
        clear hr_
        go_simp; first | done | with_reducible rfl
      simp only [Act.put, planVG, List.setIfInBounds_toArray, List.set_cons_zero, List.set_cons_succ, List.getElem?_cons_zero, List.getElem?_cons_succ]
      refine ⟨?_, ?_⟩
      · as_aux_lemma =>
        intro y_ hS_ hD
        clear hS_ hD
        refine s_gen (V := .bool true) [.bool true] (by kernel_rfl) (by kernel_rfl) (by kernel_rfl) ?_
        intro r_ hr_
        have o0_ : r_ (.tmp 114) = .bool true := op_at hr_ 0 (by kernel_rfl) (by kernel_rfl)
        clear hr_
        go_simp; first | done | with_reducible rfl
      simp only [Act.put, planVG, List.setIfInBounds_toArray, List.set_cons_zero, List.set_cons_succ, List.getElem?_cons_zero, List.getElem?_cons_succ]
      refine ⟨?_, ?_⟩
      · as_aux_lemma =>
        intro y_ hS_ hD
        clear hS_ hD
        refine s_gen (V := .bool false) [.bool false] (by kernel_rfl) (by kernel_rfl) (by kernel_rfl) ?_
        intro r_ hr_
        have o0_ : r_ (.tmp 24) = .bool false := op_at hr_ 0 (by kernel_rfl) (by kernel_rfl)
        clear hr_
        go_simp; first | done | with_reducible rfl
      simp only [Act.put, planVG, List.setIfInBounds_toArray, List.set_cons_zero, List.set_cons_succ, List.getElem?_cons_zero, List.getElem?_cons_succ]
      refine ⟨?_, ?_⟩
      · as_aux_lemma =>
        intro y_ hS_ hD
        clear hS_ hD
        refine s_gen (V := .int .i64 (n % 3000)) [.int .i64 (n % 3000)] (by kernel_rfl) (by kernel_rfl) (by kernel_rfl) ?_
        intro r_ hr_
        have o0_ : r_ (.tmp 9) = .int .i64 (n % 3000) := op_at hr_ 0 (by kernel_rfl) (by kernel_rfl)
        clear hr_
        go_simp; first | done | with_reducible rfl
      simp only [Act.put, planVG, List.setIfInBounds_toArray, List.set_cons_zero, List.set_cons_succ, List.getElem?_cons_zero, List.getElem?_cons_succ]
      refine ⟨?_, ?_⟩
      · as_aux_lemma =>
        intro y_ hS_ hD
        clear hS_ hD
        refine s_gen (V := .bool true) [.int .i64 (n % 3000), .int .i64 0] (by kernel_rfl) (by kernel_rfl) (by kernel_rfl) ?_
        intro r_ hr_
        have o0_ : r_ (.tmp 117) = .int .i64 (n % 3000) := op_at hr_ 0 (by kernel_rfl) (by kernel_rfl)
        have o1_ : r_ (.const (.int .i64 0)) = .int .i64 0 := op_at hr_ 1 (by kernel_rfl) (by kernel_rfl)
        clear hr_
        go_simp; first | done | with_reducible rfl
      simp only [Act.put, planVG, List.setIfInBounds_toArray, List.set_cons_zero, List.set_cons_succ, List.getElem?_cons_zero, List.getElem?_cons_succ]
      refine ⟨?_, ?_⟩
      · as_aux_lemma =>
        intro y_ hS_ hD
        clear hS_ hD
        refine s_gen (V := .bool true) [.bool true] (by kernel_rfl) (by kernel_rfl) (by kernel_rfl) ?_
        intro r_ hr_
        have o0_ : r_ (.tmp 118) = .bool true := op_at hr_ 0 (by kernel_rfl) (by kernel_rfl)
        clear hr_
        go_simp; first | done | with_reducible rfl
      simp only [Act.put, planVG, List.setIfInBounds_toArray, List.set_cons_zero, List.set_cons_succ, List.getElem?_cons_zero, List.getElem?_cons_succ]
      refine ⟨?_, ?_⟩
      · as_aux_lemma =>
        intro y_ hS_ hD
        clear hS_ hD
        refine s_gen (V := .pointer (some ⟨v11_10, 0, none⟩)) [.pointer (some ⟨v11_10, 0, none⟩), .int .i64 0] (by kernel_rfl) (by kernel_rfl) (by kernel_rfl) ?_
        intro r_ hr_
        have o0_ : r_ (.tmp 20) = .pointer (some ⟨v11_10, 0, none⟩) := op_at hr_ 0 (by kernel_rfl) (by kernel_rfl)
        have o1_ : r_ (.const (.int .i64 0)) = .int .i64 0 := op_at hr_ 1 (by kernel_rfl) (by kernel_rfl)
        clear hr_
        go_simp; first | done | with_reducible rfl
      simp only [Act.put, planVG, List.setIfInBounds_toArray, List.set_cons_zero, List.set_cons_succ, List.getElem?_cons_zero, List.getElem?_cons_succ]
      refine ⟨?_, ?_⟩
      · as_aux_lemma =>
        intro y_ hS_ hD
        have hS := hS_ (by rfl)
        have Q := (hS.2.2.1).cell
        have q0 := Q 0 _ rfl
        have q1 := Q 1 _ rfl
        have q2 := Q 2 _ rfl
        have q3 := Q 3 _ rfl
        clear Q hS hS_ hD
        refine s_gen (V := .int .u64 (limb 0 (divN (left256 R (n % 3000)) D))) [.pointer (some ⟨v11_10, 0, none⟩)] (by kernel_rfl) (by kernel_rfl) (by kernel_rfl) ?_
        intro r_ hr_
        have o0_ : r_ (.tmp 120) = .pointer (some ⟨v11_10, 0, none⟩) := op_at hr_ 0 (by kernel_rfl) (by kernel_rfl)
        clear hr_
        go_simp; first | done | with_reducible rfl
      simp only [Act.put, planVG, List.setIfInBounds_toArray, List.set_cons_zero, List.set_cons_succ, List.getElem?_cons_zero, List.getElem?_cons_succ]
      refine ⟨?_, ?_⟩
      · as_aux_lemma =>
        intro y_ hS_ hD
        clear hS_ hD
        refine s_gen (V := .int .u64 0) [.int .u64 (limb 0 (divN (left256 R (n % 3000)) D)), .int .u64 1] (by kernel_rfl) (by kernel_rfl) (by kernel_rfl) ?_
        intro r_ hr_
        have o0_ : r_ (.tmp 121) = .int .u64 (limb 0 (divN (left256 R (n % 3000)) D)) := op_at hr_ 0 (by kernel_rfl) (by kernel_rfl)
        have o1_ : r_ (.const (.int .u64 1)) = .int .u64 1 := op_at hr_ 1 (by kernel_rfl) (by kernel_rfl)
        clear hr_
        go_simp; first | done | with_reducible rfl
      simp only [Act.put, planVG, List.setIfInBounds_toArray, List.set_cons_zero, List.set_cons_succ, List.getElem?_cons_zero, List.getElem?_cons_succ]
      refine ⟨?_, ?_⟩
      · as_aux_lemma =>
        intro y_ hS_ hD
        clear hS_ hD
        refine s_gen (V := .bool false) [.int .u64 0, .int .u64 1] (by kernel_rfl) (by kernel_rfl) (by kernel_rfl) ?_
        intro r_ hr_
        have o0_ : r_ (.tmp 122) = .int .u64 0 := op_at hr_ 0 (by kernel_rfl) (by kernel_rfl)
        have o1_ : r_ (.const (.int .u64 1)) = .int .u64 1 := op_at hr_ 1 (by kernel_rfl) (by kernel_rfl)
        clear hr_
        go_simp; first | done | with_reducible rfl
      simp only [Act.put, planVG, List.setIfInBounds_toArray, List.set_cons_zero, List.set_cons_succ, List.getElem?_cons_zero, List.getElem?_cons_succ]
      refine ⟨?_, ?_⟩
      · as_aux_lemma =>
        intro y_ hS_ hD
        clear hS_ hD
        refine s_gen (V := .bool false) [.bool true, .bool false, .bool false] (by kernel_rfl) (by kernel_rfl) (by kernel_rfl) ?_
        intro r_ hr_
        have o0_ : r_ (.tmp 119) = .bool true := op_at hr_ 0 (by kernel_rfl) (by kernel_rfl)
        have o1_ : r_ (.tmp 123) = .bool false := op_at hr_ 1 (by kernel_rfl) (by kernel_rfl)
        have o2_ : r_ (.const (.bool false)) = .bool false := op_at hr_ 2 (by kernel_rfl) (by kernel_rfl)
        clear hr_
        go_simp; first | done | with_reducible rfl
      simp only [Act.put, planVG, List.setIfInBounds_toArray, List.set_cons_zero, List.set_cons_succ, List.getElem?_cons_zero, List.getElem?_cons_succ]
      refine ⟨?_, ?_⟩
      · as_aux_lemma =>
        intro y_ hS_ hD
        clear hS_ hD
        refine s_gen (V := .bool true) [.bool false, .bool false] (by kernel_rfl) (by kernel_rfl) (by kernel_rfl) ?_
        intro r_ hr_
        have o0_ : r_ (.tmp 116) = .bool false := op_at hr_ 0 (by kernel_rfl) (by kernel_rfl)
        have o1_ : r_ (.tmp 124) = .bool false := op_at hr_ 1 (by kernel_rfl) (by kernel_rfl)
        clear hr_
        go_simp; first | done | with_reducible rfl
      simp only [Act.put, planVG, List.setIfInBounds_toArray, List.set_cons_zero, List.set_cons_succ, List.getElem?_cons_zero, List.getElem?_cons_succ]
      refine ⟨?_, ?_⟩
      · as_aux_lemma =>
        intro y_ hS_ hD
        clear hS_ hD
        refine s_gen (V := .bool true) [.bool true, .bool true, .bool false] (by kernel_rfl) (by kernel_rfl) (by kernel_rfl) ?_
        intro r_ hr_
        have o0_ : r_ (.tmp 115) = .bool true := op_at hr_ 0 (by kernel_rfl) (by kernel_rfl)
        have o1_ : r_ (.tmp 125) = .bool true := op_at hr_ 1 (by kernel_rfl) (by kernel_rfl)
        have o2_ : r_ (.const (.bool false)) = .bool false := op_at hr_ 2 (by kernel_rfl) (by kernel_rfl)
        clear hr_
        go_simp; first | done | with_reducible rfl
      simp only [Act.put, planVG, List.setIfInBounds_toArray, List.set_cons_zero, List.set_cons_succ, List.getElem?_cons_zero, List.getElem?_cons_succ]
      refine ⟨?_, ?_⟩
      · as_aux_lemma =>
        intro y_ hS_ hD
        clear hS_ hD
        refine s_gen (V := .bool true) [.bool true] (by kernel_rfl) (by kernel_rfl) (by kernel_rfl) ?_
        intro r_ hr_
        have o0_ : r_ (.tmp 126) = .bool true := op_at hr_ 0 (by kernel_rfl) (by kernel_rfl)
        clear hr_
        go_simp; first | done | with_reducible rfl
      simp only [Act.put, planVG, List.setIfInBounds_toArray, List.set_cons_zero, List.set_cons_succ, List.getElem?_cons_zero, List.getElem?_cons_succ]
      refine ⟨?_, ?_⟩
      · as_aux_lemma =>
        intro y_ hS_ hD
        try clear hS
        clear hS_ hD
        refine s_gcall (V := .bool true) [.func (.func 37) #[] #[]] ?_ ?_ (by kernel_rfl) (by kernel_rfl) (by kernel_rfl) ?_ ?_
        rotate_left 2
        · intro r_ hr_
          have o0_ : r_ (.func 37) = .func (.func 37) #[] #[] := op_at hr_ 0 (by kernel_rfl) (by kernel_rfl)
          clear hr_
          go_simp; first | done | with_reducible rfl | (constructor <;> with_reducible rfl)
        · refine goes05_any _
      simp only [Act.put, planVG, List.setIfInBounds_toArray, List.set_cons_zero, List.set_cons_succ, List.getElem?_cons_zero, List.getElem?_cons_succ]
      refine ⟨?_, ?_⟩
      · as_aux_lemma =>
        intro y_ hS_ hD
        clear hS_ hD
        refine s_gen (V := .bool true) [.bool true, .bool true, .bool false] (by kernel_rfl) (by kernel_rfl) (by kernel_rfl) ?_
        intro r_ hr_
        have o0_ : r_ (.tmp 127) = .bool true := op_at hr_ 0 (by kernel_rfl) (by kernel_rfl)
        have o1_ : r_ (.tmp 128) = .bool true := op_at hr_ 1 (by kernel_rfl) (by kernel_rfl)
        have o2_ : r_ (.const (.bool false)) = .bool false := op_at hr_ 2 (by kernel_rfl) (by kernel_rfl)
        clear hr_
        go_simp; first | done | with_reducible rfl
      simp only [Act.put, planVG, List.setIfInBounds_toArray, List.set_cons_zero, List.set_cons_succ, List.getElem?_cons_zero, List.getElem?_cons_succ]
      refine ⟨?_, ?_⟩
      · as_aux_lemma =>
        intro y_ hS_ hD
        clear hS_ hD
        refine s_gen (V := .bool true) [.bool true] (by kernel_rfl) (by kernel_rfl) (by kernel_rfl) ?_
        intro r_ hr_
        have o0_ : r_ (.tmp 129) = .bool true := op_at hr_ 0 (by kernel_rfl) (by kernel_rfl)
        clear hr_
        go_simp; first | done | with_reducible rfl
      simp only [Act.put, planVG, List.setIfInBounds_toArray, List.set_cons_zero, List.set_cons_succ, List.getElem?_cons_zero, List.getElem?_cons_succ]
      as_aux_lemma =>
        intro w7 hS hF hD_
        change wpList _ _ _ _ _ _
        replace hS := sg_no (by decide) hS
        obtain ⟨hk, hZ7, Bv11_10, Bv11_11, X5⟩ := hS
        clear hF hD_
        clear ρ
        have hz_w7 := hk.size
        have Bv11_10l := Bv11_10.lt
        have Bv11_10f := Bv11_10.free
        have Bv11_10l1 : v11_10 < w7.heap.size + 1 := by omega
        have Bv11_10l2 : v11_10 < w7.heap.size + 1 + 1 := by omega
        have Bv11_10l3 : v11_10 < w7.heap.size + 1 + 1 + 1 := by omega
        have Bv11_100 := Bv11_10.cell 0 _ rfl
        have Bv11_101 := Bv11_10.cell 1 _ rfl
        have Bv11_102 := Bv11_10.cell 2 _ rfl
        have Bv11_103 := Bv11_10.cell 3 _ rfl
        have Bv11_11l := Bv11_11.lt
        have Bv11_11f := Bv11_11.free
        have Bv11_11l1 : v11_11 < w7.heap.size + 1 := by omega
        have Bv11_11l2 : v11_11 < w7.heap.size + 1 + 1 := by omega
        have Bv11_11l3 : v11_11 < w7.heap.size + 1 + 1 + 1 := by omega
        have Bv11_110 := Bv11_11.cell 0 _ rfl
        have Bv11_111 := Bv11_11.cell 1 _ rfl
        have X5l := X5.lt
        have X5f := X5.free
        have X5l1 : w6.heap.size < w7.heap.size + 1 := by omega
        have X5l2 : w6.heap.size < w7.heap.size + 1 + 1 := by omega
        have X5l3 : w6.heap.size < w7.heap.size + 1 + 1 + 1 := by omega
        have X50 := X5.cell 0 _ rfl
        have X51 := X5.cell 1 _ rfl
        go_wp2
        go_ret
        exact ⟨rfl, (by refine Kept.below ?_; repeat (first | with_reducible exact hk | with_reducible exact Kept.refl _ | with_reducible refine Kept.alloc ?_ _ | with_reducible refine Kept.drew ?_ | with_reducible refine Kept.setCell ?_ (by simp only [World.size_alloc, World.size_setCell, World.size_drew]; omega) _))⟩

end Go.Proofs.Ytjfejldiiijjbaa
