/- package quot: the contract of Mod. -/
import Derived.Test.YtglagdmfplgfaaaQuotN
import Derived.Test.YtglagdmfplgfaaaQuotP
import Derived.Test.YtglagdmfplgfaaaRegionG
set_option linter.unusedVariables false
set_option linter.unusedSimpArgs false
namespace Go.Proofs.Ytglagdmfplgfaaa
open Go.RowKit

theorem next_zero {r d : Nat} (hd : W128 d) (hr : r < d) (w : World) :
    Calls Try.prog 74 #[bitsV r, .int .u64 0, bitsV d] w fun e w' => e = .returned (.tuple #[bitsV (nextN r 0 d), .bool (onceB r 0 d)]) ∧ Below w.heap.size w w' := next_any hd hr (b := 0) (by omega) w
set_option maxRecDepth 100000 in
set_option maxHeartbeats 8000000 in
theorem Mod1_any {W : World} {r d b3 b5 b9 : Nat} {o : Bool} (n35 : b3 ≠ b5) (n39 : b3 ≠ b9) (n59 : b9 ≠ b5) (hd : W128 d) (hr : r < d) (h3 : Box W b3 #[.int .u64 (limb 1 r), .int .u64 (limb 0 r)]) (h5 : Box W b5 #[.int .u64 (limb 1 d), .int .u64 (limb 0 d)]) (h9 : Box W b9 #[.bool o]) :
    Calls Try.prog 78 #[.pointer (some ⟨b3, 0, none⟩), .pointer (some ⟨b5, 0, none⟩), .pointer (some ⟨b9, 0, none⟩)] W fun e w' => (∃ v, e = .returned v) ∧ Box w' b3 #[.int .u64 (limb 1 (nextN r 0 d)), .int .u64 (limb 0 (nextN r 0 d))] ∧ Box w' b5 #[.int .u64 (limb 1 d), .int .u64 (limb 0 d)] ∧ Box w' b9 #[.bool (onceB r 0 d)] ∧
      (∀ n0, n0 ≤ b3 → n0 ≤ b9 → n0 ≤ W.heap.size → Below n0 W w') ∧ (∀ b vs, b ≠ b3 → b ≠ b9 → Box W b vs → Box w' b vs) := by
  go_enter Try.func78, Try.ntmps78
  have r0 := h3.cell 0 _ rfl
  have r1 := h3.cell 1 _ rfl
  have d0 := h5.cell 0 _ rfl
  have d1 := h5.cell 1 _ rfl
  go_wp2_with fail
  refine (next_zero hd hr _).mono ?_
  rintro e w1 ⟨rfl, hb⟩
  clear r0 r1 d0 d1
  have B3 := h3.call hb
  have B5 := h5.call hb
  have B9 := h9.call hb
  have r0 := B3.cell 0 _ rfl
  have r1 := B3.cell 1 _ rfl
  have rf := B3.free
  have o0 := B9.cell 0 _ rfl
  have of := B9.free
  have nn1 := Ne.symm n35
  have nn2 := Ne.symm n39
  have nn3 := Ne.symm n59
  go_wp2
  go_end0
  refine ⟨⟨_, rfl⟩, ?_, ?_, ?_, fun n0 a b c => (((hb.mono c).setCell (by simp only []; omega) _).setCell (by simp only []; omega) _).setCell (by simp only []; omega) _, fun b vs h1 h2 hB => (((hB.call hb).other (by omega)).other (by omega)).other (by omega)⟩
  · exact (B3.set20.set21).other (by omega)
  · exact ((B5.other (by omega)).other (by omega)).other (by omega)
  · exact Box.set10 ((B9.other (by omega)).other (by omega))

/-- what holds ahead of each step -/
structure ModI (w : World) (bn r d k : Nat) (W : World) : Prop where
  fr : Box W w.heap.size #[.int .u64 (limb 1 (farN r d k)), .int .u64 (limb 0 (farN r d k))]
  fd : Box W (w.heap.size + 1) #[.int .u64 (limb 1 d), .int .u64 (limb 0 d)]
  fo : Box W (w.heap.size + 1 + 1) #[.int .u64 0, .int .u64 0]
  fodd : Box W bn #[.bool (oddF r d k)]
  old : Below w.heap.size w W
set_option maxRecDepth 100000 in
set_option maxHeartbeats 8000000 in
theorem Mod_any {r d : Nat} (hd : W128 d) (hr : r < d) (N : Nat) (hN : N ≤ 40000) (w : World) :
    Calls Try.prog 38 #[bitsV r, .int .i64 (N : Int), bitsV d] w fun e w' => e = .returned (.tuple #[bitsV (farN r d N), .bool (oddF r d N), .bool true]) ∧ Below w.heap.size w w' := by
  have hk := Kept.refl w
  have hw : W128 r := ⟨Nat.lt_trans hr hd.lt⟩
  have h0 : 0 < d := by omega
  have c1 := cmp_lt hr
  have c2 : ¬ (N : Int) < 0 := by omega
  have c3 : ¬ (40000 : Int) < (N : Int) := by omega
  go_enter Try.func38, Try.ntmps38
  go_wp2_with fail
  refine (Cmp_at (IsBits.of hw) (IsBits.of hd) _).mono ?_
  rintro e w1 ⟨rfl, hb⟩
  have Br : Box w1 (w.heap.size) #[.int .u64 (limb 1 r), .int .u64 (limb 0 r)] := Box.call hb (by repeat (first | with_reducible assumption | with_reducible apply Box.set10 | with_reducible apply Box.set20 | with_reducible apply Box.set21 | with_reducible apply Box.set40 | with_reducible apply Box.set41 | with_reducible apply Box.set42 | with_reducible apply Box.set43 | with_reducible apply Box.set50 | with_reducible apply Box.set51 | with_reducible apply Box.set52 | with_reducible apply Box.set53 | with_reducible apply Box.set54 | with_reducible apply Box.drew | (with_reducible apply Box.newAt; (try simp only [World.size_alloc, World.size_setCell, World.size_drew]); done) | with_reducible apply Box.alloc | (with_reducible apply Box.other; case hne => ((try simp only [World.size_alloc, World.size_setCell, World.size_drew]); omega))))
  have Bd : Box w1 (w.heap.size + 1) #[.int .u64 (limb 1 d), .int .u64 (limb 0 d)] := Box.call hb (by repeat (first | with_reducible assumption | with_reducible apply Box.set10 | with_reducible apply Box.set20 | with_reducible apply Box.set21 | with_reducible apply Box.set40 | with_reducible apply Box.set41 | with_reducible apply Box.set42 | with_reducible apply Box.set43 | with_reducible apply Box.set50 | with_reducible apply Box.set51 | with_reducible apply Box.set52 | with_reducible apply Box.set53 | with_reducible apply Box.set54 | with_reducible apply Box.drew | (with_reducible apply Box.newAt; (try simp only [World.size_alloc, World.size_setCell, World.size_drew]); done) | with_reducible apply Box.alloc | (with_reducible apply Box.other; case hne => ((try simp only [World.size_alloc, World.size_setCell, World.size_drew]); omega))))
  have Bo : Box w1 (w.heap.size + 1 + 1) #[.int .u64 0, .int .u64 0] := Box.call hb (by repeat (first | with_reducible assumption | with_reducible apply Box.set10 | with_reducible apply Box.set20 | with_reducible apply Box.set21 | with_reducible apply Box.set40 | with_reducible apply Box.set41 | with_reducible apply Box.set42 | with_reducible apply Box.set43 | with_reducible apply Box.set50 | with_reducible apply Box.set51 | with_reducible apply Box.set52 | with_reducible apply Box.set53 | with_reducible apply Box.set54 | with_reducible apply Box.drew | (with_reducible apply Box.newAt; (try simp only [World.size_alloc, World.size_setCell, World.size_drew]); done) | with_reducible apply Box.alloc | (with_reducible apply Box.other; case hne => ((try simp only [World.size_alloc, World.size_setCell, World.size_drew]); omega))))
  have hk1 : Kept w.heap.size w w1 := Kept.step (by repeat (first | with_reducible exact hk | with_reducible exact Kept.refl _ | with_reducible refine Kept.alloc ?_ _ | with_reducible refine Kept.drew ?_ | with_reducible refine Kept.setCell ?_ (by simp only [World.size_alloc, World.size_setCell, World.size_drew]; omega) _)) hb
  have hl := Bo.lt
  clear hb hk
  have I0 : ∀ t, ModI w w1.heap.size r d 0 (w1.alloc (.cells #[.bool false] t)) := fun t => ⟨(by rw [far_zero hr]; exact Br : Box w1 (w.heap.size) #[.int .u64 (limb 1 (farN r d 0)), .int .u64 (limb 0 (farN r d 0))]).alloc _, Bd.alloc _, Bo.alloc _, by rw [odd_zero hr]; exact Box.newAt rfl,
    hk1.below.alloc hk1.size _⟩
  have hs := hk1.size
  clear Br Bd Bo hk1
  generalize hbn : w1.heap.size = bn at *
  go_wp2
  go_loopw [26] (fun i wr => ∃ k : Nat, k ≤ N ∧ i = .int .i64 (k : Int) ∧ ModI w bn r d k wr) (fun i _ => N - (intOf i).toNat)
  case atStart => exact ⟨0, Nat.zero_le _, rfl, I0 _⟩
  case round =>
    obtain ⟨k, hk, rfl, hI⟩ := hrel
    by_cases hlt : k < N
    · have hlt' : (k : Int) < (N : Int) := by omega
      have wi : IntKind.i64.wrap ((k : Int) + 1) = (k : Int) + 1 := IntWalk.i64_in _ (by omega)
      go_wp2_with fail
      refine (Mod1_any (by omega) (by omega) (by omega) hd (far_lt r h0 k) hI.fr hI.fd hI.fodd).mono ?_
      rintro e W1 ⟨⟨v, rfl⟩, h3, h5, h9, hbl, hoth⟩
      have hI2 : ModI w bn r d (k + 1) W1 := ⟨by rw [far_step r h0]; exact h3, h5, hoth _ _ (by omega) (by omega) hI.fo, by rw [odd_step r h0]; exact h9, hI.old.trans (hbl _ (Nat.le_refl _) hs hI.old.size)⟩
      clear h3 h5 h9 hbl hoth hI
      go_wp2
      go_roundw
      case rel => exact ⟨k + 1, by omega, by simp, hI2⟩
      case measure => simp [intOf]; omega
    · have hge : ¬ (k : Int) < (N : Int) := by omega
      have hkN : k = N := by omega
      subst hkN
      have f0 := hI.fr.cell 0 _ rfl
      have f1 := hI.fr.cell 1 _ rfl
      have o0 := hI.fo.cell 0 _ rfl
      have o1 := hI.fo.cell 1 _ rfl
      have of := hI.fo.free
      have b0 := hI.fodd.cell 0 _ rfl
      go_wp2
      go_region
      all_goals go_wp2
      all_goals
        refine bodyPost_ret (v := .tuple #[bitsV (farN r d k), .bool (oddF r d k), .bool true]) (by simp [results, Try.results38, go_sem, o0, o1]) rfl ⟨rfl, ?_⟩
        exact ((hI.old.setCell (by simp only []; omega) _).setCell (by simp only []; omega) _).drew
set_option maxRecDepth 100000 in
set_option maxHeartbeats 8000000 in
theorem Mod_no1 {r d : Nat} (hw : W128 r) (hd : W128 d) (z : Int) (h : d ≤ r) (w : World) :
    Calls Try.prog 38 #[bitsV r, .int .i64 z, bitsV d] w fun e w' => e = .returned (.tuple #[.agg #[.int .u64 0, .int .u64 0], .bool false, .bool false]) ∧ Below w.heap.size w w' := by
  have hk := Kept.refl w
  have c1 : 0 ≤ cmpN r d := by have := @cmp_neg r d; omega
  go_enter Try.func38, Try.ntmps38
  go_wp2_with fail
  (with_reducible refine (Cmp_at (IsBits.of hw) (IsBits.of hd) _).mono ?_)
  rintro e w1 ⟨rfl, hb⟩
  have X3' : Box w1 (w.heap.size + 1 + 1) #[.int .u64 0, .int .u64 0] := Box.call hb (by repeat (first | with_reducible assumption | with_reducible apply Box.set10 | with_reducible apply Box.set20 | with_reducible apply Box.set21 | with_reducible apply Box.set40 | with_reducible apply Box.set41 | with_reducible apply Box.set42 | with_reducible apply Box.set43 | with_reducible apply Box.set50 | with_reducible apply Box.set51 | with_reducible apply Box.set52 | with_reducible apply Box.set53 | with_reducible apply Box.set54 | with_reducible apply Box.drew | (with_reducible apply Box.newAt; (try simp only [World.size_alloc, World.size_setCell, World.size_drew]); done) | with_reducible apply Box.alloc | (with_reducible apply Box.other; case hne => ((try simp only [World.size_alloc, World.size_setCell, World.size_drew]); omega))))
  have hk' : Kept w.heap.size w w1 := Kept.step (by repeat (first | with_reducible exact hk | with_reducible exact Kept.refl _ | with_reducible refine Kept.alloc ?_ _ | with_reducible refine Kept.drew ?_ | with_reducible refine Kept.setCell ?_ (by simp only [World.size_alloc, World.size_setCell, World.size_drew]; omega) _)) hb
  clear hk hb
  have X3 := X3'
  clear X3'
  have hk := hk'
  clear hk'
  have hz_w1 := hk.size
  have X3l := X3.lt
  have X3f := X3.free
  have X3l1 : w.heap.size + 1 + 1 < w1.heap.size + 1 := by omega
  have X3l2 : w.heap.size + 1 + 1 < w1.heap.size + 1 + 1 := by omega
  have X3l3 : w.heap.size + 1 + 1 < w1.heap.size + 1 + 1 + 1 := by omega
  have X30 := X3.cell 0 _ rfl
  have X31 := X3.cell 1 _ rfl
  go_wp2
  refine bodyPost_ret (v := .tuple #[.agg #[.int .u64 0, .int .u64 0], .bool false, .bool false]) (by simp [results, Try.results38, go_sem, X30, X31]) rfl ⟨rfl, ?_⟩
  refine Kept.below ?_; repeat (first | with_reducible exact hk | with_reducible exact Kept.refl _ | with_reducible refine Kept.alloc ?_ _ | with_reducible refine Kept.drew ?_ | with_reducible refine Kept.setCell ?_ (by simp only [World.size_alloc, World.size_setCell, World.size_drew]; omega) _)

set_option maxRecDepth 100000 in
set_option maxHeartbeats 8000000 in
theorem Mod_no2 {r d : Nat} (hw : W128 r) (hd : W128 d) (z : Int) (h : r < d) (h2 : z < 0) (w : World) :
    Calls Try.prog 38 #[bitsV r, .int .i64 z, bitsV d] w fun e w' => e = .returned (.tuple #[.agg #[.int .u64 0, .int .u64 0], .bool false, .bool false]) ∧ Below w.heap.size w w' := by
  have hk := Kept.refl w
  have c1 := cmp_lt h
  go_enter Try.func38, Try.ntmps38
  go_wp2_with fail
  (with_reducible refine (Cmp_at (IsBits.of hw) (IsBits.of hd) _).mono ?_)
  rintro e w1 ⟨rfl, hb⟩
  have X3' : Box w1 (w.heap.size + 1 + 1) #[.int .u64 0, .int .u64 0] := Box.call hb (by repeat (first | with_reducible assumption | with_reducible apply Box.set10 | with_reducible apply Box.set20 | with_reducible apply Box.set21 | with_reducible apply Box.set40 | with_reducible apply Box.set41 | with_reducible apply Box.set42 | with_reducible apply Box.set43 | with_reducible apply Box.set50 | with_reducible apply Box.set51 | with_reducible apply Box.set52 | with_reducible apply Box.set53 | with_reducible apply Box.set54 | with_reducible apply Box.drew | (with_reducible apply Box.newAt; (try simp only [World.size_alloc, World.size_setCell, World.size_drew]); done) | with_reducible apply Box.alloc | (with_reducible apply Box.other; case hne => ((try simp only [World.size_alloc, World.size_setCell, World.size_drew]); omega))))
  have hk' : Kept w.heap.size w w1 := Kept.step (by repeat (first | with_reducible exact hk | with_reducible exact Kept.refl _ | with_reducible refine Kept.alloc ?_ _ | with_reducible refine Kept.drew ?_ | with_reducible refine Kept.setCell ?_ (by simp only [World.size_alloc, World.size_setCell, World.size_drew]; omega) _)) hb
  clear hk hb
  have X3 := X3'
  clear X3'
  have hk := hk'
  clear hk'
  have hz_w1 := hk.size
  have X3l := X3.lt
  have X3f := X3.free
  have X3l1 : w.heap.size + 1 + 1 < w1.heap.size + 1 := by omega
  have X3l2 : w.heap.size + 1 + 1 < w1.heap.size + 1 + 1 := by omega
  have X3l3 : w.heap.size + 1 + 1 < w1.heap.size + 1 + 1 + 1 := by omega
  have X30 := X3.cell 0 _ rfl
  have X31 := X3.cell 1 _ rfl
  go_wp2
  refine bodyPost_ret (v := .tuple #[.agg #[.int .u64 0, .int .u64 0], .bool false, .bool false]) (by simp [results, Try.results38, go_sem, X30, X31]) rfl ⟨rfl, ?_⟩
  refine Kept.below ?_; repeat (first | with_reducible exact hk | with_reducible exact Kept.refl _ | with_reducible refine Kept.alloc ?_ _ | with_reducible refine Kept.drew ?_ | with_reducible refine Kept.setCell ?_ (by simp only [World.size_alloc, World.size_setCell, World.size_drew]; omega) _)

set_option maxRecDepth 100000 in
set_option maxHeartbeats 8000000 in
theorem Mod_no3 {r d : Nat} (hw : W128 r) (hd : W128 d) (z : Int) (h : r < d) (h2 : ¬ z < 0) (h3 : 40000 < z) (w : World) :
    Calls Try.prog 38 #[bitsV r, .int .i64 z, bitsV d] w fun e w' => e = .returned (.tuple #[.agg #[.int .u64 0, .int .u64 0], .bool false, .bool false]) ∧ Below w.heap.size w w' := by
  have hk := Kept.refl w
  have c1 := cmp_lt h
  go_enter Try.func38, Try.ntmps38
  go_wp2_with fail
  (with_reducible refine (Cmp_at (IsBits.of hw) (IsBits.of hd) _).mono ?_)
  rintro e w1 ⟨rfl, hb⟩
  have X3' : Box w1 (w.heap.size + 1 + 1) #[.int .u64 0, .int .u64 0] := Box.call hb (by repeat (first | with_reducible assumption | with_reducible apply Box.set10 | with_reducible apply Box.set20 | with_reducible apply Box.set21 | with_reducible apply Box.set40 | with_reducible apply Box.set41 | with_reducible apply Box.set42 | with_reducible apply Box.set43 | with_reducible apply Box.set50 | with_reducible apply Box.set51 | with_reducible apply Box.set52 | with_reducible apply Box.set53 | with_reducible apply Box.set54 | with_reducible apply Box.drew | (with_reducible apply Box.newAt; (try simp only [World.size_alloc, World.size_setCell, World.size_drew]); done) | with_reducible apply Box.alloc | (with_reducible apply Box.other; case hne => ((try simp only [World.size_alloc, World.size_setCell, World.size_drew]); omega))))
  have hk' : Kept w.heap.size w w1 := Kept.step (by repeat (first | with_reducible exact hk | with_reducible exact Kept.refl _ | with_reducible refine Kept.alloc ?_ _ | with_reducible refine Kept.drew ?_ | with_reducible refine Kept.setCell ?_ (by simp only [World.size_alloc, World.size_setCell, World.size_drew]; omega) _)) hb
  clear hk hb
  have X3 := X3'
  clear X3'
  have hk := hk'
  clear hk'
  have hz_w1 := hk.size
  have X3l := X3.lt
  have X3f := X3.free
  have X3l1 : w.heap.size + 1 + 1 < w1.heap.size + 1 := by omega
  have X3l2 : w.heap.size + 1 + 1 < w1.heap.size + 1 + 1 := by omega
  have X3l3 : w.heap.size + 1 + 1 < w1.heap.size + 1 + 1 + 1 := by omega
  have X30 := X3.cell 0 _ rfl
  have X31 := X3.cell 1 _ rfl
  go_wp2
  refine bodyPost_ret (v := .tuple #[.agg #[.int .u64 0, .int .u64 0], .bool false, .bool false]) (by simp [results, Try.results38, go_sem, X30, X31]) rfl ⟨rfl, ?_⟩
  refine Kept.below ?_; repeat (first | with_reducible exact hk | with_reducible exact Kept.refl _ | with_reducible refine Kept.alloc ?_ _ | with_reducible refine Kept.drew ?_ | with_reducible refine Kept.setCell ?_ (by simp only [World.size_alloc, World.size_setCell, World.size_drew]; omega) _)

set_option maxRecDepth 100000 in
set_option maxHeartbeats 8000000 in
theorem Div_zero {A D : Nat} (hA : W256 A) (hD : W128 D) (h0 : D = 0) (w : World) :
    Calls Try.prog 34 #[wideV A, bitsV D] w fun e w' => e = .returned (.tuple #[.agg #[.int .u64 0, .int .u64 0, .int .u64 0, .int .u64 0], .agg #[.int .u64 0, .int .u64 0], .bool false]) ∧ Below w.heap.size w w' := by
  have hk := Kept.refl w
  have c1 : zeroB D = true := decide_eq_true h0
  clear h0
  go_enter Try.func34, Try.ntmps34
  go_wp2_with fail
  refine (Zero_at (IsBits.of hD) _).mono ?_
  rintro e w1 ⟨rfl, hb⟩
  have Bq : Box w1 (w.heap.size + 1 + 1) #[.int .u64 0, .int .u64 0, .int .u64 0, .int .u64 0] := Box.call hb (by repeat (first | with_reducible assumption | with_reducible apply Box.set10 | with_reducible apply Box.set20 | with_reducible apply Box.set21 | with_reducible apply Box.set40 | with_reducible apply Box.set41 | with_reducible apply Box.set42 | with_reducible apply Box.set43 | with_reducible apply Box.set50 | with_reducible apply Box.set51 | with_reducible apply Box.set52 | with_reducible apply Box.set53 | with_reducible apply Box.set54 | with_reducible apply Box.drew | (with_reducible apply Box.newAt; (try simp only [World.size_alloc, World.size_setCell, World.size_drew]); done) | with_reducible apply Box.alloc | (with_reducible apply Box.other; case hne => ((try simp only [World.size_alloc, World.size_setCell, World.size_drew]); omega))))
  have Br : Box w1 (w.heap.size + 1 + 1 + 1) #[.int .u64 0, .int .u64 0] := Box.call hb (by repeat (first | with_reducible assumption | with_reducible apply Box.set10 | with_reducible apply Box.set20 | with_reducible apply Box.set21 | with_reducible apply Box.set40 | with_reducible apply Box.set41 | with_reducible apply Box.set42 | with_reducible apply Box.set43 | with_reducible apply Box.set50 | with_reducible apply Box.set51 | with_reducible apply Box.set52 | with_reducible apply Box.set53 | with_reducible apply Box.set54 | with_reducible apply Box.drew | (with_reducible apply Box.newAt; (try simp only [World.size_alloc, World.size_setCell, World.size_drew]); done) | with_reducible apply Box.alloc | (with_reducible apply Box.other; case hne => ((try simp only [World.size_alloc, World.size_setCell, World.size_drew]); omega))))
  have Bx : Box w1 (w.heap.size + 1 + 1 + 1 + 1) #[.int .u64 0, .int .u64 0, .int .u64 0, .int .u64 0] := Box.call hb (by repeat (first | with_reducible assumption | with_reducible apply Box.set10 | with_reducible apply Box.set20 | with_reducible apply Box.set21 | with_reducible apply Box.set40 | with_reducible apply Box.set41 | with_reducible apply Box.set42 | with_reducible apply Box.set43 | with_reducible apply Box.set50 | with_reducible apply Box.set51 | with_reducible apply Box.set52 | with_reducible apply Box.set53 | with_reducible apply Box.set54 | with_reducible apply Box.drew | (with_reducible apply Box.newAt; (try simp only [World.size_alloc, World.size_setCell, World.size_drew]); done) | with_reducible apply Box.alloc | (with_reducible apply Box.other; case hne => ((try simp only [World.size_alloc, World.size_setCell, World.size_drew]); omega))))
  have By : Box w1 (w.heap.size + 1 + 1 + 1 + 1 + 1) #[.int .u64 0, .int .u64 0] := Box.call hb (by repeat (first | with_reducible assumption | with_reducible apply Box.set10 | with_reducible apply Box.set20 | with_reducible apply Box.set21 | with_reducible apply Box.set40 | with_reducible apply Box.set41 | with_reducible apply Box.set42 | with_reducible apply Box.set43 | with_reducible apply Box.set50 | with_reducible apply Box.set51 | with_reducible apply Box.set52 | with_reducible apply Box.set53 | with_reducible apply Box.set54 | with_reducible apply Box.drew | (with_reducible apply Box.newAt; (try simp only [World.size_alloc, World.size_setCell, World.size_drew]); done) | with_reducible apply Box.alloc | (with_reducible apply Box.other; case hne => ((try simp only [World.size_alloc, World.size_setCell, World.size_drew]); omega))))
  have hk1 : Kept w.heap.size w w1 := Kept.step (by repeat (first | with_reducible exact hk | with_reducible exact Kept.refl _ | with_reducible refine Kept.alloc ?_ _ | with_reducible refine Kept.drew ?_ | with_reducible refine Kept.setCell ?_ (by simp only [World.size_alloc, World.size_setCell, World.size_drew]; omega) _)) hb
  clear hb hk
  have a0 := Bq.cell 0 _ rfl
  have a1 := Bq.cell 1 _ rfl
  have a2 := Bq.cell 2 _ rfl
  have a3 := Bq.cell 3 _ rfl
  have b0 := Br.cell 0 _ rfl
  have b1 := Br.cell 1 _ rfl
  have c0 := Bx.cell 0 _ rfl
  have c2 := Bx.cell 1 _ rfl
  have c3 := Bx.cell 2 _ rfl
  have c4 := Bx.cell 3 _ rfl
  have d0 := By.cell 0 _ rfl
  have d1 := By.cell 1 _ rfl
  have qf := Bq.free
  have rf := Br.free
  go_wp2
  go_region
  all_goals go_wp2
  all_goals
    refine bodyPost_ret (v := .tuple #[.agg #[.int .u64 0, .int .u64 0, .int .u64 0, .int .u64 0], .agg #[.int .u64 0, .int .u64 0], .bool false]) (by simp [results, Try.results34, go_sem, a0, a1, a2, a3, b0, b1]) rfl ⟨rfl, ?_⟩
    refine Kept.below ?_
    repeat (first | with_reducible exact hk1 | with_reducible refine Kept.drew ?_ | with_reducible refine Kept.setCell ?_ (by simp only []; omega) _)
end Go.Proofs.Ytglagdmfplgfaaa
