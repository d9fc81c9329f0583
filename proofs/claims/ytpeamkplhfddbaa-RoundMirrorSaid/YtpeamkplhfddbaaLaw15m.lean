/- The walk of RoundMirror. -/
import Derived.Test.YtpeamkplhfddbaaRegion3
import Derived.Test.YtpeamkplhfddbaaLaw15
set_option linter.unusedVariables false
set_option linter.unusedSimpArgs false
namespace Go.Proofs.Ytpeamkplhfddbaa
open Go.RowKit

theorem mirror_range {m : Int} (m0 : 0 ≤ m) (m1 : m ≤ 4) : 0 ≤ mirrorI m ∧ mirrorI m ≤ 4 := by unfold mirrorI; split <;> (try split) <;> omega
theorem mirror_far {m : Int} (m1 : 4 < m) : mirrorI m = m := by unfold mirrorI; rw [if_neg (by omega), if_neg (by omega)]
theorem cut_next {W : Nat} (hW : W256 W) {k : Int} (k0 : 0 ≤ k) (k1 : k ≤ 127) (h : moreB W k = true) : cutN W k 2 false = add128 (cutN W k 3 false) (val2 1 0) := by
  have hl := floor_lt hW k0 k1
  rw [cut_up (by rw [up_up]; exact h), cut_no (up_down W k)]
  exact (add_one128 hl).symm
theorem cut_same {W : Nat} {k : Int} (h : moreB W k = false) : cutN W k 2 false = cutN W k 3 false := by
  rw [cut_no (by rw [up_up]; exact h), cut_no (up_down W k)]

set_option maxRecDepth 100000 in
set_option maxHeartbeats 8000000 in
theorem RoundMirror_im {W : Nat} (hW : W256 W) {n m : Int} (n0 : 0 ≤ n) (n1 : n ≤ 255) (m0 : 0 ≤ m) (m1 : m ≤ 255) (hm : m ≤ 4) (h : moreB W (n % 128) = true) (w : World) :
    Calls Try.prog 6 #[wideV W, .int .u8 n, .int .u8 m] w fun e w' => e = .returned (.bool true) ∧ Below w.heap.size w w' := by
  have hk := Kept.refl w
  have k0 : 0 ≤ n % 128 := by omega
  have k1 : n % 128 ≤ 127 := by omega
  have f1 := cut_next hW k0 k1 h
  have mr := mirror_range m0 hm
  have f2 := cut_mirror W (n % 128) m
  go_enter Try.func6, Try.ntmps6
  go_wp2_with fail
  (with_reducible refine (Cut_in hW k0 k1 m0 (by omega) _ _).mono ?_)
  rintro e w1 ⟨rfl, hb⟩
  have Bw' : Box w1 (w.heap.size) #[.int .u64 (limb 0 W), .int .u64 (limb 1 W), .int .u64 (limb 2 W), .int .u64 (limb 3 W)] := Box.call hb (by repeat (first | with_reducible assumption | with_reducible apply Box.set10 | with_reducible apply Box.set20 | with_reducible apply Box.set21 | with_reducible apply Box.set40 | with_reducible apply Box.set41 | with_reducible apply Box.set42 | with_reducible apply Box.set43 | with_reducible apply Box.set50 | with_reducible apply Box.set51 | with_reducible apply Box.set52 | with_reducible apply Box.set53 | with_reducible apply Box.set54 | with_reducible apply Box.drew | (with_reducible apply Box.newAt; (try simp only [World.size_alloc, World.size_setCell, World.size_drew]); done) | with_reducible apply Box.alloc | (with_reducible apply Box.other; case hne => ((try simp only [World.size_alloc, World.size_setCell, World.size_drew]); omega))))
  have hk' : Kept w.heap.size w w1 := Kept.step (by repeat (first | with_reducible exact hk | with_reducible exact Kept.refl _ | with_reducible refine Kept.alloc ?_ _ | with_reducible refine Kept.drew ?_ | with_reducible refine Kept.setCell ?_ (by simp only [World.size_alloc, World.size_setCell, World.size_drew]; omega) _)) hb
  clear hk hb
  have Bw := Bw'
  clear Bw'
  have hk := hk'
  clear hk'
  have hz_w1 := hk.size
  have Bwl := Bw.lt
  have Bwf := Bw.free
  have Bwl1 : w.heap.size < w1.heap.size + 1 := by omega
  have Bwl2 : w.heap.size < w1.heap.size + 1 + 1 := by omega
  have Bwl3 : w.heap.size < w1.heap.size + 1 + 1 + 1 := by omega
  have Bw0 := Bw.cell 0 _ rfl
  have Bw1 := Bw.cell 1 _ rfl
  have Bw2 := Bw.cell 2 _ rfl
  have Bw3 := Bw.cell 3 _ rfl
  go_wp2
  refine wp_region_univ 11 (fun W' => Kept w.heap.size w W' ∧ Box W' (w.heap.size) #[.int .u64 (limb 0 W), .int .u64 (limb 1 W), .int .u64 (limb 2 W), .int .u64 (limb 3 W)] ∧ Box W' (w1.heap.size) #[.int .u64 (limb 1 (cutN W (n % 128) m true)), .int .u64 (limb 0 (cutN W (n % 128) m true))]) (w1.heap.size + 1) (fun _ => #[.int .u64 0, .int .u64 0]) (by kernel_rfl) (by kernel_rfl) (fun W W' h hb => ⟨h.1.step hb, Box.call hb (h.2.1), Box.call hb (h.2.2)⟩) (fun _ h => (h.2.2).lt) (⟨(by repeat (first | with_reducible exact hk | with_reducible exact Kept.refl _ | with_reducible refine Kept.alloc ?_ _ | with_reducible refine Kept.drew ?_ | with_reducible refine Kept.setCell ?_ (by simp only [World.size_alloc, World.size_setCell, World.size_drew]; omega) _)), (by repeat (first | with_reducible assumption | with_reducible apply Box.set10 | with_reducible apply Box.set20 | with_reducible apply Box.set21 | with_reducible apply Box.set40 | with_reducible apply Box.set41 | with_reducible apply Box.set42 | with_reducible apply Box.set43 | with_reducible apply Box.set50 | with_reducible apply Box.set51 | with_reducible apply Box.set52 | with_reducible apply Box.set53 | with_reducible apply Box.set54 | with_reducible apply Box.drew | (with_reducible apply Box.newAt; (try simp only [World.size_alloc, World.size_setCell, World.size_drew]); done) | with_reducible apply Box.alloc | (with_reducible apply Box.other; case hne => ((try simp only [World.size_alloc, World.size_setCell, World.size_drew]); omega)))), (by repeat (first | with_reducible assumption | with_reducible apply Box.set10 | with_reducible apply Box.set20 | with_reducible apply Box.set21 | with_reducible apply Box.set40 | with_reducible apply Box.set41 | with_reducible apply Box.set42 | with_reducible apply Box.set43 | with_reducible apply Box.set50 | with_reducible apply Box.set51 | with_reducible apply Box.set52 | with_reducible apply Box.set53 | with_reducible apply Box.set54 | with_reducible apply Box.drew | (with_reducible apply Box.newAt; (try simp only [World.size_alloc, World.size_setCell, World.size_drew]); done) | with_reducible apply Box.alloc | (with_reducible apply Box.other; case hne => ((try simp only [World.size_alloc, World.size_setCell, World.size_drew]); omega))))⟩) ?_
  clear hk
  clear Bw Bwl1 Bwl2 Bwl3 Bwf Bw0 Bw1 Bw2 Bw3
  simp only [List.take_succ_cons, List.take_zero, List.drop_succ_cons, List.drop_zero]
  refine hv_val ?_ (by rfl) (by rfl) (by rfl) (by rfl) ?_ ?_
  rotate_left
  · intro w hS; have Q0 := (hS.2.1).cell; have q0_0 := Q0 0 _ rfl; have q0_1 := Q0 1 _ rfl; have q0_2 := Q0 2 _ rfl; have q0_3 := Q0 3 _ rfl; clear Q0; clear hS; go_simp; first | done | with_reducible rfl
  simp only [Act.put, List.setIfInBounds_toArray, List.set_cons_zero, List.set_cons_succ]
  refine hv_copy _ _ (by rfl) (by rfl) (by rfl) (by rfl) (by first | rfl | (go_simp; done) | (go_simp; rfl)) ?_
  simp only [Act.put, List.setIfInBounds_toArray, List.set_cons_zero, List.set_cons_succ]
  refine hv_copy _ _ (by rfl) (by rfl) (by rfl) (by rfl) (by first | rfl | (go_simp; done) | (go_simp; rfl)) ?_
  simp only [Act.put, List.setIfInBounds_toArray, List.set_cons_zero, List.set_cons_succ]
  refine hv_call ?_ ?_ ?_ (by rfl) (by rfl) (by rfl) (by rfl) ?_ ?_ ?_
  rotate_left 3
  · intro w hS; go_simp; first | done | with_reducible rfl | (constructor <;> with_reducible rfl)
  · intro w hS; refine (Mirror_any _ _).mono ?_; rintro e w' ⟨rfl, hb⟩; constructor; · with_reducible rfl
    · subst hb; exact Below.refl _ _
  simp only [Act.put, List.setIfInBounds_toArray, List.set_cons_zero, List.set_cons_succ]
  refine hv_call ?_ ?_ ?_ (by rfl) (by rfl) (by rfl) (by rfl) ?_ ?_ ?_
  rotate_left 3
  · intro w hS; go_simp; first | done | with_reducible rfl | (constructor <;> with_reducible rfl)
  · intro w hS; refine (Cut_in hW k0 k1 mr.1 mr.2 _ _).mono ?_; rintro e w' ⟨rfl, hb⟩; constructor; · with_reducible rfl
    · exact hb
  simp only [Act.put, List.setIfInBounds_toArray, List.set_cons_zero, List.set_cons_succ]
  refine hv_copy _ _ (by rfl) (by rfl) (by rfl) (by rfl) (by first | rfl | (go_simp; done) | (go_simp; rfl)) ?_
  simp only [Act.put, List.setIfInBounds_toArray, List.set_cons_zero, List.set_cons_succ]
  refine hv_val ?_ (by rfl) (by rfl) (by rfl) (by rfl) ?_ ?_
  rotate_left
  · intro w hS; clear hS; go_simp; first | done | with_reducible rfl
  simp only [Act.put, List.setIfInBounds_toArray, List.set_cons_zero, List.set_cons_succ]
  refine hv_val ?_ (by rfl) (by rfl) (by rfl) (by rfl) ?_ ?_
  rotate_left
  · intro w hS; clear hS; go_simp; first | done | with_reducible rfl
  simp only [Act.put, List.setIfInBounds_toArray, List.set_cons_zero, List.set_cons_succ]
  refine hv_alloc (by rfl) ⟨by rfl, ?_⟩ ?_
  · intro w; simp only [allocTy]; go_simp
  intro bc hbc
  simp only [Act.put, List.setIfInBounds_toArray, List.set_cons_zero, List.set_cons_succ]
  refine hv_store (fun W' => (True ∧ Box W' bc #[.int .u64 (limb 1 (cutN W (n % 128) m true)), .int .u64 (limb 0 (cutN W (n % 128) m true))])) (by rfl) (by rfl) (by rfl) (fun _ _ h hb => ⟨trivial, Box.call hb (h.2)⟩) ?_ ?_
  · intro w hS hE
    obtain ⟨_, Fbc⟩ := hE
    have Bbc : Box w bc _ := ⟨Fbc.lt, Fbc.cell, Fbc.free⟩
    have Q := Bbc.cell
    have q0 := Q 0 _ rfl
    have q1 := Q 1 _ rfl
    have Qf := Bbc.free
    refine ⟨((w.setCell ⟨bc, 0, none⟩ (.int .u64 (limb 1 (cutN W (n % 128) m true)))).setCell ⟨bc, 1, none⟩ (.int .u64 (limb 0 (cutN W (n % 128) m true)))), (by clear hS; go_simp; first | done | with_reducible rfl), ?_, ?_⟩
    · have hB := hbc
      have hz := hS.1.size
      have hz0 := (hS.2.1).lt
      have hz1 := (hS.2.2).lt
      exact ⟨((hS.1).setCell (p := ⟨bc, 0, none⟩) (by simp only []; omega) _).setCell (p := ⟨bc, 1, none⟩) (by simp only []; omega) _, ((hS.2.1).other (by omega)).other (by omega), ((hS.2.2).other (by omega)).other (by omega)⟩
    · exact ⟨trivial, (by with_reducible apply Box.set21; with_reducible apply Box.set20; exact Bbc)⟩
  simp only [Act.put, List.setIfInBounds_toArray, List.set_cons_zero, List.set_cons_succ]
  refine hv_copy _ _ (by rfl) (by rfl) (by rfl) (by rfl) (by first | rfl | (go_simp; done) | (go_simp; rfl)) ?_
  simp only [Act.put, List.setIfInBounds_toArray, List.set_cons_zero, List.set_cons_succ]
  intro w2 hS hE
  change wpList _ _ _ _ _ _
  obtain ⟨hk, Bw, Ba⟩ := hS
  obtain ⟨_, Fbc⟩ := hE
  have Bbc : Box w2 (bc) #[.int .u64 (limb 1 (cutN W (n % 128) m true)), .int .u64 (limb 0 (cutN W (n % 128) m true))] := ⟨Fbc.lt, Fbc.cell, Fbc.free⟩
  clear Fbc
  have hz_w2 := hk.size
  have Bwl := Bw.lt
  have Bwf := Bw.free
  have Bwl1 : w.heap.size < w2.heap.size + 1 := by omega
  have Bwl2 : w.heap.size < w2.heap.size + 1 + 1 := by omega
  have Bwl3 : w.heap.size < w2.heap.size + 1 + 1 + 1 := by omega
  have Bw0 := Bw.cell 0 _ rfl
  have Bw1 := Bw.cell 1 _ rfl
  have Bw2 := Bw.cell 2 _ rfl
  have Bw3 := Bw.cell 3 _ rfl
  have Bal := Ba.lt
  have Baf := Ba.free
  have Bal1 : w1.heap.size < w2.heap.size + 1 := by omega
  have Bal2 : w1.heap.size < w2.heap.size + 1 + 1 := by omega
  have Bal3 : w1.heap.size < w2.heap.size + 1 + 1 + 1 := by omega
  have Ba0 := Ba.cell 0 _ rfl
  have Ba1 := Ba.cell 1 _ rfl
  have Bbcl := Bbc.lt
  have Bbcf := Bbc.free
  have Bbcl1 : bc < w2.heap.size + 1 := by omega
  have Bbcl2 : bc < w2.heap.size + 1 + 1 := by omega
  have Bbcl3 : bc < w2.heap.size + 1 + 1 + 1 := by omega
  have Bbc0 := Bbc.cell 0 _ rfl
  have Bbc1 := Bbc.cell 1 _ rfl
  go_wp2_with fail
  (with_reducible refine (Cut_in hW k0 k1 (by omega) (by omega) _ _).mono ?_)
  rintro e w3 ⟨rfl, hb⟩
  have Bw' : Box w3 (w.heap.size) #[.int .u64 (limb 0 W), .int .u64 (limb 1 W), .int .u64 (limb 2 W), .int .u64 (limb 3 W)] := Box.call hb (by repeat (first | with_reducible assumption | with_reducible apply Box.set10 | with_reducible apply Box.set20 | with_reducible apply Box.set21 | with_reducible apply Box.set40 | with_reducible apply Box.set41 | with_reducible apply Box.set42 | with_reducible apply Box.set43 | with_reducible apply Box.set50 | with_reducible apply Box.set51 | with_reducible apply Box.set52 | with_reducible apply Box.set53 | with_reducible apply Box.set54 | with_reducible apply Box.drew | (with_reducible apply Box.newAt; (try simp only [World.size_alloc, World.size_setCell, World.size_drew]); done) | with_reducible apply Box.alloc | (with_reducible apply Box.other; case hne => ((try simp only [World.size_alloc, World.size_setCell, World.size_drew]); omega))))
  have Ba' : Box w3 (w1.heap.size) #[.int .u64 (limb 1 (cutN W (n % 128) m true)), .int .u64 (limb 0 (cutN W (n % 128) m true))] := Box.call hb (by repeat (first | with_reducible assumption | with_reducible apply Box.set10 | with_reducible apply Box.set20 | with_reducible apply Box.set21 | with_reducible apply Box.set40 | with_reducible apply Box.set41 | with_reducible apply Box.set42 | with_reducible apply Box.set43 | with_reducible apply Box.set50 | with_reducible apply Box.set51 | with_reducible apply Box.set52 | with_reducible apply Box.set53 | with_reducible apply Box.set54 | with_reducible apply Box.drew | (with_reducible apply Box.newAt; (try simp only [World.size_alloc, World.size_setCell, World.size_drew]); done) | with_reducible apply Box.alloc | (with_reducible apply Box.other; case hne => ((try simp only [World.size_alloc, World.size_setCell, World.size_drew]); omega))))
  have Bbc' : Box w3 (bc) #[.int .u64 (limb 1 (cutN W (n % 128) m true)), .int .u64 (limb 0 (cutN W (n % 128) m true))] := Box.call hb (by repeat (first | with_reducible assumption | with_reducible apply Box.set10 | with_reducible apply Box.set20 | with_reducible apply Box.set21 | with_reducible apply Box.set40 | with_reducible apply Box.set41 | with_reducible apply Box.set42 | with_reducible apply Box.set43 | with_reducible apply Box.set50 | with_reducible apply Box.set51 | with_reducible apply Box.set52 | with_reducible apply Box.set53 | with_reducible apply Box.set54 | with_reducible apply Box.drew | (with_reducible apply Box.newAt; (try simp only [World.size_alloc, World.size_setCell, World.size_drew]); done) | with_reducible apply Box.alloc | (with_reducible apply Box.other; case hne => ((try simp only [World.size_alloc, World.size_setCell, World.size_drew]); omega))))
  have hk' : Kept w.heap.size w w3 := Kept.step (by repeat (first | with_reducible exact hk | with_reducible exact Kept.refl _ | with_reducible refine Kept.alloc ?_ _ | with_reducible refine Kept.drew ?_ | with_reducible refine Kept.setCell ?_ (by simp only [World.size_alloc, World.size_setCell, World.size_drew]; omega) _)) hb
  clear hk hb
  clear Bw Bwl1 Bwl2 Bwl3 Bwf Bw0 Bw1 Bw2 Bw3
  clear Ba Bal1 Bal2 Bal3 Baf Ba0 Ba1
  clear Bbc Bbcl1 Bbcl2 Bbcl3 Bbcf Bbc0 Bbc1
  have Bw := Bw'
  clear Bw'
  have Ba := Ba'
  clear Ba'
  have Bbc := Bbc'
  clear Bbc'
  have hk := hk'
  clear hk'
  have hz_w3 := hk.size
  have Bwl := Bw.lt
  have Bwf := Bw.free
  have Bwl1 : w.heap.size < w3.heap.size + 1 := by omega
  have Bwl2 : w.heap.size < w3.heap.size + 1 + 1 := by omega
  have Bwl3 : w.heap.size < w3.heap.size + 1 + 1 + 1 := by omega
  have Bw0 := Bw.cell 0 _ rfl
  have Bw1 := Bw.cell 1 _ rfl
  have Bw2 := Bw.cell 2 _ rfl
  have Bw3 := Bw.cell 3 _ rfl
  have Bal := Ba.lt
  have Baf := Ba.free
  have Bal1 : w1.heap.size < w3.heap.size + 1 := by omega
  have Bal2 : w1.heap.size < w3.heap.size + 1 + 1 := by omega
  have Bal3 : w1.heap.size < w3.heap.size + 1 + 1 + 1 := by omega
  have Ba0 := Ba.cell 0 _ rfl
  have Ba1 := Ba.cell 1 _ rfl
  have Bbcl := Bbc.lt
  have Bbcf := Bbc.free
  have Bbcl1 : bc < w3.heap.size + 1 := by omega
  have Bbcl2 : bc < w3.heap.size + 1 + 1 := by omega
  have Bbcl3 : bc < w3.heap.size + 1 + 1 + 1 := by omega
  have Bbc0 := Bbc.cell 0 _ rfl
  have Bbc1 := Bbc.cell 1 _ rfl
  go_wp2_with fail
  (with_reducible refine (Cut_in hW k0 k1 (by omega) (by omega) _ _).mono ?_)
  rintro e w4 ⟨rfl, hb⟩
  have Bw' : Box w4 (w.heap.size) #[.int .u64 (limb 0 W), .int .u64 (limb 1 W), .int .u64 (limb 2 W), .int .u64 (limb 3 W)] := Box.call hb (by repeat (first | with_reducible assumption | with_reducible apply Box.set10 | with_reducible apply Box.set20 | with_reducible apply Box.set21 | with_reducible apply Box.set40 | with_reducible apply Box.set41 | with_reducible apply Box.set42 | with_reducible apply Box.set43 | with_reducible apply Box.set50 | with_reducible apply Box.set51 | with_reducible apply Box.set52 | with_reducible apply Box.set53 | with_reducible apply Box.set54 | with_reducible apply Box.drew | (with_reducible apply Box.newAt; (try simp only [World.size_alloc, World.size_setCell, World.size_drew]); done) | with_reducible apply Box.alloc | (with_reducible apply Box.other; case hne => ((try simp only [World.size_alloc, World.size_setCell, World.size_drew]); omega))))
  have Ba' : Box w4 (w1.heap.size) #[.int .u64 (limb 1 (cutN W (n % 128) m true)), .int .u64 (limb 0 (cutN W (n % 128) m true))] := Box.call hb (by repeat (first | with_reducible assumption | with_reducible apply Box.set10 | with_reducible apply Box.set20 | with_reducible apply Box.set21 | with_reducible apply Box.set40 | with_reducible apply Box.set41 | with_reducible apply Box.set42 | with_reducible apply Box.set43 | with_reducible apply Box.set50 | with_reducible apply Box.set51 | with_reducible apply Box.set52 | with_reducible apply Box.set53 | with_reducible apply Box.set54 | with_reducible apply Box.drew | (with_reducible apply Box.newAt; (try simp only [World.size_alloc, World.size_setCell, World.size_drew]); done) | with_reducible apply Box.alloc | (with_reducible apply Box.other; case hne => ((try simp only [World.size_alloc, World.size_setCell, World.size_drew]); omega))))
  have Bbc' : Box w4 (bc) #[.int .u64 (limb 1 (cutN W (n % 128) m true)), .int .u64 (limb 0 (cutN W (n % 128) m true))] := Box.call hb (by repeat (first | with_reducible assumption | with_reducible apply Box.set10 | with_reducible apply Box.set20 | with_reducible apply Box.set21 | with_reducible apply Box.set40 | with_reducible apply Box.set41 | with_reducible apply Box.set42 | with_reducible apply Box.set43 | with_reducible apply Box.set50 | with_reducible apply Box.set51 | with_reducible apply Box.set52 | with_reducible apply Box.set53 | with_reducible apply Box.set54 | with_reducible apply Box.drew | (with_reducible apply Box.newAt; (try simp only [World.size_alloc, World.size_setCell, World.size_drew]); done) | with_reducible apply Box.alloc | (with_reducible apply Box.other; case hne => ((try simp only [World.size_alloc, World.size_setCell, World.size_drew]); omega))))
  have Bu' : Box w4 (w3.heap.size) #[.int .u64 (limb 1 (add128 (cutN W (n % 128) 3 false) (val2 1 0))), .int .u64 (limb 0 (add128 (cutN W (n % 128) 3 false) (val2 1 0)))] := Box.call hb (by repeat (first | with_reducible assumption | with_reducible apply Box.set10 | with_reducible apply Box.set20 | with_reducible apply Box.set21 | with_reducible apply Box.set40 | with_reducible apply Box.set41 | with_reducible apply Box.set42 | with_reducible apply Box.set43 | with_reducible apply Box.set50 | with_reducible apply Box.set51 | with_reducible apply Box.set52 | with_reducible apply Box.set53 | with_reducible apply Box.set54 | with_reducible apply Box.drew | (with_reducible apply Box.newAt; (try simp only [World.size_alloc, World.size_setCell, World.size_drew]); done) | with_reducible apply Box.alloc | (with_reducible apply Box.other; case hne => ((try simp only [World.size_alloc, World.size_setCell, World.size_drew]); omega))))
  have hk' : Kept w.heap.size w w4 := Kept.step (by repeat (first | with_reducible exact hk | with_reducible exact Kept.refl _ | with_reducible refine Kept.alloc ?_ _ | with_reducible refine Kept.drew ?_ | with_reducible refine Kept.setCell ?_ (by simp only [World.size_alloc, World.size_setCell, World.size_drew]; omega) _)) hb
  clear hk hb
  clear Bw Bwl1 Bwl2 Bwl3 Bwf Bw0 Bw1 Bw2 Bw3
  clear Ba Bal1 Bal2 Bal3 Baf Ba0 Ba1
  clear Bbc Bbcl1 Bbcl2 Bbcl3 Bbcf Bbc0 Bbc1
  have Bw := Bw'
  clear Bw'
  have Ba := Ba'
  clear Ba'
  have Bbc := Bbc'
  clear Bbc'
  have Bu := Bu'
  clear Bu'
  have hk := hk'
  clear hk'
  have hz_w4 := hk.size
  have Bwl := Bw.lt
  have Bwf := Bw.free
  have Bwl1 : w.heap.size < w4.heap.size + 1 := by omega
  have Bwl2 : w.heap.size < w4.heap.size + 1 + 1 := by omega
  have Bwl3 : w.heap.size < w4.heap.size + 1 + 1 + 1 := by omega
  have Bw0 := Bw.cell 0 _ rfl
  have Bw1 := Bw.cell 1 _ rfl
  have Bw2 := Bw.cell 2 _ rfl
  have Bw3 := Bw.cell 3 _ rfl
  have Bal := Ba.lt
  have Baf := Ba.free
  have Bal1 : w1.heap.size < w4.heap.size + 1 := by omega
  have Bal2 : w1.heap.size < w4.heap.size + 1 + 1 := by omega
  have Bal3 : w1.heap.size < w4.heap.size + 1 + 1 + 1 := by omega
  have Ba0 := Ba.cell 0 _ rfl
  have Ba1 := Ba.cell 1 _ rfl
  have Bbcl := Bbc.lt
  have Bbcf := Bbc.free
  have Bbcl1 : bc < w4.heap.size + 1 := by omega
  have Bbcl2 : bc < w4.heap.size + 1 + 1 := by omega
  have Bbcl3 : bc < w4.heap.size + 1 + 1 + 1 := by omega
  have Bbc0 := Bbc.cell 0 _ rfl
  have Bbc1 := Bbc.cell 1 _ rfl
  have Bul := Bu.lt
  have Buf := Bu.free
  have Bul1 : w3.heap.size < w4.heap.size + 1 := by omega
  have Bul2 : w3.heap.size < w4.heap.size + 1 + 1 := by omega
  have Bul3 : w3.heap.size < w4.heap.size + 1 + 1 + 1 := by omega
  have Bu0 := Bu.cell 0 _ rfl
  have Bu1 := Bu.cell 1 _ rfl
  go_wp2_with fail
  (with_reducible refine (Add_at (IsBits.of (cut_w hW k0 k1 _ _)) (IsBits.val u64_zero (isU64_mk (by decide +kernel))) _).mono ?_)
  rintro e w5 ⟨rfl, hb⟩
  have Bw' : Box w5 (w.heap.size) #[.int .u64 (limb 0 W), .int .u64 (limb 1 W), .int .u64 (limb 2 W), .int .u64 (limb 3 W)] := Box.call hb (by repeat (first | with_reducible assumption | with_reducible apply Box.set10 | with_reducible apply Box.set20 | with_reducible apply Box.set21 | with_reducible apply Box.set40 | with_reducible apply Box.set41 | with_reducible apply Box.set42 | with_reducible apply Box.set43 | with_reducible apply Box.set50 | with_reducible apply Box.set51 | with_reducible apply Box.set52 | with_reducible apply Box.set53 | with_reducible apply Box.set54 | with_reducible apply Box.drew | (with_reducible apply Box.newAt; (try simp only [World.size_alloc, World.size_setCell, World.size_drew]); done) | with_reducible apply Box.alloc | (with_reducible apply Box.other; case hne => ((try simp only [World.size_alloc, World.size_setCell, World.size_drew]); omega))))
  have Ba' : Box w5 (w1.heap.size) #[.int .u64 (limb 1 (cutN W (n % 128) m true)), .int .u64 (limb 0 (cutN W (n % 128) m true))] := Box.call hb (by repeat (first | with_reducible assumption | with_reducible apply Box.set10 | with_reducible apply Box.set20 | with_reducible apply Box.set21 | with_reducible apply Box.set40 | with_reducible apply Box.set41 | with_reducible apply Box.set42 | with_reducible apply Box.set43 | with_reducible apply Box.set50 | with_reducible apply Box.set51 | with_reducible apply Box.set52 | with_reducible apply Box.set53 | with_reducible apply Box.set54 | with_reducible apply Box.drew | (with_reducible apply Box.newAt; (try simp only [World.size_alloc, World.size_setCell, World.size_drew]); done) | with_reducible apply Box.alloc | (with_reducible apply Box.other; case hne => ((try simp only [World.size_alloc, World.size_setCell, World.size_drew]); omega))))
  have Bbc' : Box w5 (bc) #[.int .u64 (limb 1 (cutN W (n % 128) m true)), .int .u64 (limb 0 (cutN W (n % 128) m true))] := Box.call hb (by repeat (first | with_reducible assumption | with_reducible apply Box.set10 | with_reducible apply Box.set20 | with_reducible apply Box.set21 | with_reducible apply Box.set40 | with_reducible apply Box.set41 | with_reducible apply Box.set42 | with_reducible apply Box.set43 | with_reducible apply Box.set50 | with_reducible apply Box.set51 | with_reducible apply Box.set52 | with_reducible apply Box.set53 | with_reducible apply Box.set54 | with_reducible apply Box.drew | (with_reducible apply Box.newAt; (try simp only [World.size_alloc, World.size_setCell, World.size_drew]); done) | with_reducible apply Box.alloc | (with_reducible apply Box.other; case hne => ((try simp only [World.size_alloc, World.size_setCell, World.size_drew]); omega))))
  have Bu' : Box w5 (w3.heap.size) #[.int .u64 (limb 1 (add128 (cutN W (n % 128) 3 false) (val2 1 0))), .int .u64 (limb 0 (add128 (cutN W (n % 128) 3 false) (val2 1 0)))] := Box.call hb (by repeat (first | with_reducible assumption | with_reducible apply Box.set10 | with_reducible apply Box.set20 | with_reducible apply Box.set21 | with_reducible apply Box.set40 | with_reducible apply Box.set41 | with_reducible apply Box.set42 | with_reducible apply Box.set43 | with_reducible apply Box.set50 | with_reducible apply Box.set51 | with_reducible apply Box.set52 | with_reducible apply Box.set53 | with_reducible apply Box.set54 | with_reducible apply Box.drew | (with_reducible apply Box.newAt; (try simp only [World.size_alloc, World.size_setCell, World.size_drew]); done) | with_reducible apply Box.alloc | (with_reducible apply Box.other; case hne => ((try simp only [World.size_alloc, World.size_setCell, World.size_drew]); omega))))
  have Bd' : Box w5 (w4.heap.size) #[.int .u64 (limb 1 (cutN W (n % 128) 3 false)), .int .u64 (limb 0 (cutN W (n % 128) 3 false))] := Box.call hb (by repeat (first | with_reducible assumption | with_reducible apply Box.set10 | with_reducible apply Box.set20 | with_reducible apply Box.set21 | with_reducible apply Box.set40 | with_reducible apply Box.set41 | with_reducible apply Box.set42 | with_reducible apply Box.set43 | with_reducible apply Box.set50 | with_reducible apply Box.set51 | with_reducible apply Box.set52 | with_reducible apply Box.set53 | with_reducible apply Box.set54 | with_reducible apply Box.drew | (with_reducible apply Box.newAt; (try simp only [World.size_alloc, World.size_setCell, World.size_drew]); done) | with_reducible apply Box.alloc | (with_reducible apply Box.other; case hne => ((try simp only [World.size_alloc, World.size_setCell, World.size_drew]); omega))))
  have hk' : Kept w.heap.size w w5 := Kept.step (by repeat (first | with_reducible exact hk | with_reducible exact Kept.refl _ | with_reducible refine Kept.alloc ?_ _ | with_reducible refine Kept.drew ?_ | with_reducible refine Kept.setCell ?_ (by simp only [World.size_alloc, World.size_setCell, World.size_drew]; omega) _)) hb
  clear hk hb
  clear Bw Bwl1 Bwl2 Bwl3 Bwf Bw0 Bw1 Bw2 Bw3
  clear Ba Bal1 Bal2 Bal3 Baf Ba0 Ba1
  clear Bbc Bbcl1 Bbcl2 Bbcl3 Bbcf Bbc0 Bbc1
  clear Bu Bul1 Bul2 Bul3 Buf Bu0 Bu1
  have Bw := Bw'
  clear Bw'
  have Ba := Ba'
  clear Ba'
  have Bbc := Bbc'
  clear Bbc'
  have Bu := Bu'
  clear Bu'
  have Bd := Bd'
  clear Bd'
  have hk := hk'
  clear hk'
  have hz_w5 := hk.size
  have Bwl := Bw.lt
  have Bwf := Bw.free
  have Bwl1 : w.heap.size < w5.heap.size + 1 := by omega
  have Bwl2 : w.heap.size < w5.heap.size + 1 + 1 := by omega
  have Bwl3 : w.heap.size < w5.heap.size + 1 + 1 + 1 := by omega
  have Bw0 := Bw.cell 0 _ rfl
  have Bw1 := Bw.cell 1 _ rfl
  have Bw2 := Bw.cell 2 _ rfl
  have Bw3 := Bw.cell 3 _ rfl
  have Bal := Ba.lt
  have Baf := Ba.free
  have Bal1 : w1.heap.size < w5.heap.size + 1 := by omega
  have Bal2 : w1.heap.size < w5.heap.size + 1 + 1 := by omega
  have Bal3 : w1.heap.size < w5.heap.size + 1 + 1 + 1 := by omega
  have Ba0 := Ba.cell 0 _ rfl
  have Ba1 := Ba.cell 1 _ rfl
  have Bbcl := Bbc.lt
  have Bbcf := Bbc.free
  have Bbcl1 : bc < w5.heap.size + 1 := by omega
  have Bbcl2 : bc < w5.heap.size + 1 + 1 := by omega
  have Bbcl3 : bc < w5.heap.size + 1 + 1 + 1 := by omega
  have Bbc0 := Bbc.cell 0 _ rfl
  have Bbc1 := Bbc.cell 1 _ rfl
  have Bul := Bu.lt
  have Buf := Bu.free
  have Bul1 : w3.heap.size < w5.heap.size + 1 := by omega
  have Bul2 : w3.heap.size < w5.heap.size + 1 + 1 := by omega
  have Bul3 : w3.heap.size < w5.heap.size + 1 + 1 + 1 := by omega
  have Bu0 := Bu.cell 0 _ rfl
  have Bu1 := Bu.cell 1 _ rfl
  have Bdl := Bd.lt
  have Bdf := Bd.free
  have Bdl1 : w4.heap.size < w5.heap.size + 1 := by omega
  have Bdl2 : w4.heap.size < w5.heap.size + 1 + 1 := by omega
  have Bdl3 : w4.heap.size < w5.heap.size + 1 + 1 + 1 := by omega
  have Bd0 := Bd.cell 0 _ rfl
  have Bd1 := Bd.cell 1 _ rfl
  go_wp2_with fail
  (with_reducible refine (goes15_any _).mono ?_)
  rintro e w6 ⟨rfl, hb⟩
  have Bw' : Box w6 (w.heap.size) #[.int .u64 (limb 0 W), .int .u64 (limb 1 W), .int .u64 (limb 2 W), .int .u64 (limb 3 W)] := Box.call hb (by repeat (first | with_reducible assumption | with_reducible apply Box.set10 | with_reducible apply Box.set20 | with_reducible apply Box.set21 | with_reducible apply Box.set40 | with_reducible apply Box.set41 | with_reducible apply Box.set42 | with_reducible apply Box.set43 | with_reducible apply Box.set50 | with_reducible apply Box.set51 | with_reducible apply Box.set52 | with_reducible apply Box.set53 | with_reducible apply Box.set54 | with_reducible apply Box.drew | (with_reducible apply Box.newAt; (try simp only [World.size_alloc, World.size_setCell, World.size_drew]); done) | with_reducible apply Box.alloc | (with_reducible apply Box.other; case hne => ((try simp only [World.size_alloc, World.size_setCell, World.size_drew]); omega))))
  have Ba' : Box w6 (w1.heap.size) #[.int .u64 (limb 1 (cutN W (n % 128) m true)), .int .u64 (limb 0 (cutN W (n % 128) m true))] := Box.call hb (by repeat (first | with_reducible assumption | with_reducible apply Box.set10 | with_reducible apply Box.set20 | with_reducible apply Box.set21 | with_reducible apply Box.set40 | with_reducible apply Box.set41 | with_reducible apply Box.set42 | with_reducible apply Box.set43 | with_reducible apply Box.set50 | with_reducible apply Box.set51 | with_reducible apply Box.set52 | with_reducible apply Box.set53 | with_reducible apply Box.set54 | with_reducible apply Box.drew | (with_reducible apply Box.newAt; (try simp only [World.size_alloc, World.size_setCell, World.size_drew]); done) | with_reducible apply Box.alloc | (with_reducible apply Box.other; case hne => ((try simp only [World.size_alloc, World.size_setCell, World.size_drew]); omega))))
  have Bbc' : Box w6 (bc) #[.int .u64 (limb 1 (cutN W (n % 128) m true)), .int .u64 (limb 0 (cutN W (n % 128) m true))] := Box.call hb (by repeat (first | with_reducible assumption | with_reducible apply Box.set10 | with_reducible apply Box.set20 | with_reducible apply Box.set21 | with_reducible apply Box.set40 | with_reducible apply Box.set41 | with_reducible apply Box.set42 | with_reducible apply Box.set43 | with_reducible apply Box.set50 | with_reducible apply Box.set51 | with_reducible apply Box.set52 | with_reducible apply Box.set53 | with_reducible apply Box.set54 | with_reducible apply Box.drew | (with_reducible apply Box.newAt; (try simp only [World.size_alloc, World.size_setCell, World.size_drew]); done) | with_reducible apply Box.alloc | (with_reducible apply Box.other; case hne => ((try simp only [World.size_alloc, World.size_setCell, World.size_drew]); omega))))
  have Bu' : Box w6 (w3.heap.size) #[.int .u64 (limb 1 (add128 (cutN W (n % 128) 3 false) (val2 1 0))), .int .u64 (limb 0 (add128 (cutN W (n % 128) 3 false) (val2 1 0)))] := Box.call hb (by repeat (first | with_reducible assumption | with_reducible apply Box.set10 | with_reducible apply Box.set20 | with_reducible apply Box.set21 | with_reducible apply Box.set40 | with_reducible apply Box.set41 | with_reducible apply Box.set42 | with_reducible apply Box.set43 | with_reducible apply Box.set50 | with_reducible apply Box.set51 | with_reducible apply Box.set52 | with_reducible apply Box.set53 | with_reducible apply Box.set54 | with_reducible apply Box.drew | (with_reducible apply Box.newAt; (try simp only [World.size_alloc, World.size_setCell, World.size_drew]); done) | with_reducible apply Box.alloc | (with_reducible apply Box.other; case hne => ((try simp only [World.size_alloc, World.size_setCell, World.size_drew]); omega))))
  have Bd' : Box w6 (w4.heap.size) #[.int .u64 (limb 1 (cutN W (n % 128) 3 false)), .int .u64 (limb 0 (cutN W (n % 128) 3 false))] := Box.call hb (by repeat (first | with_reducible assumption | with_reducible apply Box.set10 | with_reducible apply Box.set20 | with_reducible apply Box.set21 | with_reducible apply Box.set40 | with_reducible apply Box.set41 | with_reducible apply Box.set42 | with_reducible apply Box.set43 | with_reducible apply Box.set50 | with_reducible apply Box.set51 | with_reducible apply Box.set52 | with_reducible apply Box.set53 | with_reducible apply Box.set54 | with_reducible apply Box.drew | (with_reducible apply Box.newAt; (try simp only [World.size_alloc, World.size_setCell, World.size_drew]); done) | with_reducible apply Box.alloc | (with_reducible apply Box.other; case hne => ((try simp only [World.size_alloc, World.size_setCell, World.size_drew]); omega))))
  have Bn' : Box w6 (w5.heap.size) #[.int .u64 (limb 1 (add128 (cutN W (n % 128) 3 false) (val2 1 0))), .int .u64 (limb 0 (add128 (cutN W (n % 128) 3 false) (val2 1 0)))] := Box.call hb (by repeat (first | with_reducible assumption | with_reducible apply Box.set10 | with_reducible apply Box.set20 | with_reducible apply Box.set21 | with_reducible apply Box.set40 | with_reducible apply Box.set41 | with_reducible apply Box.set42 | with_reducible apply Box.set43 | with_reducible apply Box.set50 | with_reducible apply Box.set51 | with_reducible apply Box.set52 | with_reducible apply Box.set53 | with_reducible apply Box.set54 | with_reducible apply Box.drew | (with_reducible apply Box.newAt; (try simp only [World.size_alloc, World.size_setCell, World.size_drew]); done) | with_reducible apply Box.alloc | (with_reducible apply Box.other; case hne => ((try simp only [World.size_alloc, World.size_setCell, World.size_drew]); omega))))
  have hk' : Kept w.heap.size w w6 := Kept.step (by repeat (first | with_reducible exact hk | with_reducible exact Kept.refl _ | with_reducible refine Kept.alloc ?_ _ | with_reducible refine Kept.drew ?_ | with_reducible refine Kept.setCell ?_ (by simp only [World.size_alloc, World.size_setCell, World.size_drew]; omega) _)) hb
  clear hk hb
  clear Bw Bwl1 Bwl2 Bwl3 Bwf Bw0 Bw1 Bw2 Bw3
  clear Ba Bal1 Bal2 Bal3 Baf Ba0 Ba1
  clear Bbc Bbcl1 Bbcl2 Bbcl3 Bbcf Bbc0 Bbc1
  clear Bu Bul1 Bul2 Bul3 Buf Bu0 Bu1
  clear Bd Bdl1 Bdl2 Bdl3 Bdf Bd0 Bd1
  have Bw := Bw'
  clear Bw'
  have Ba := Ba'
  clear Ba'
  have Bbc := Bbc'
  clear Bbc'
  have Bu := Bu'
  clear Bu'
  have Bd := Bd'
  clear Bd'
  have Bn := Bn'
  clear Bn'
  have hk := hk'
  clear hk'
  have hz_w6 := hk.size
  have Bwl := Bw.lt
  have Bwf := Bw.free
  have Bwl1 : w.heap.size < w6.heap.size + 1 := by omega
  have Bwl2 : w.heap.size < w6.heap.size + 1 + 1 := by omega
  have Bwl3 : w.heap.size < w6.heap.size + 1 + 1 + 1 := by omega
  have Bw0 := Bw.cell 0 _ rfl
  have Bw1 := Bw.cell 1 _ rfl
  have Bw2 := Bw.cell 2 _ rfl
  have Bw3 := Bw.cell 3 _ rfl
  have Bal := Ba.lt
  have Baf := Ba.free
  have Bal1 : w1.heap.size < w6.heap.size + 1 := by omega
  have Bal2 : w1.heap.size < w6.heap.size + 1 + 1 := by omega
  have Bal3 : w1.heap.size < w6.heap.size + 1 + 1 + 1 := by omega
  have Ba0 := Ba.cell 0 _ rfl
  have Ba1 := Ba.cell 1 _ rfl
  have Bbcl := Bbc.lt
  have Bbcf := Bbc.free
  have Bbcl1 : bc < w6.heap.size + 1 := by omega
  have Bbcl2 : bc < w6.heap.size + 1 + 1 := by omega
  have Bbcl3 : bc < w6.heap.size + 1 + 1 + 1 := by omega
  have Bbc0 := Bbc.cell 0 _ rfl
  have Bbc1 := Bbc.cell 1 _ rfl
  have Bul := Bu.lt
  have Buf := Bu.free
  have Bul1 : w3.heap.size < w6.heap.size + 1 := by omega
  have Bul2 : w3.heap.size < w6.heap.size + 1 + 1 := by omega
  have Bul3 : w3.heap.size < w6.heap.size + 1 + 1 + 1 := by omega
  have Bu0 := Bu.cell 0 _ rfl
  have Bu1 := Bu.cell 1 _ rfl
  have Bdl := Bd.lt
  have Bdf := Bd.free
  have Bdl1 : w4.heap.size < w6.heap.size + 1 := by omega
  have Bdl2 : w4.heap.size < w6.heap.size + 1 + 1 := by omega
  have Bdl3 : w4.heap.size < w6.heap.size + 1 + 1 + 1 := by omega
  have Bd0 := Bd.cell 0 _ rfl
  have Bd1 := Bd.cell 1 _ rfl
  have Bnl := Bn.lt
  have Bnf := Bn.free
  have Bnl1 : w5.heap.size < w6.heap.size + 1 := by omega
  have Bnl2 : w5.heap.size < w6.heap.size + 1 + 1 := by omega
  have Bnl3 : w5.heap.size < w6.heap.size + 1 + 1 + 1 := by omega
  have Bn0 := Bn.cell 0 _ rfl
  have Bn1 := Bn.cell 1 _ rfl
  go_wp2
  go_ret
  exact ⟨rfl, (by refine Kept.below ?_; repeat (first | with_reducible exact hk | with_reducible exact Kept.refl _ | with_reducible refine Kept.alloc ?_ _ | with_reducible refine Kept.drew ?_ | with_reducible refine Kept.setCell ?_ (by simp only [World.size_alloc, World.size_setCell, World.size_drew]; omega) _))⟩

set_option maxRecDepth 100000 in
set_option maxHeartbeats 8000000 in
theorem RoundMirror_in {W : Nat} (hW : W256 W) {n m : Int} (n0 : 0 ≤ n) (n1 : n ≤ 255) (m0 : 0 ≤ m) (m1 : m ≤ 255) (hm : m ≤ 4) (h : moreB W (n % 128) = false) (w : World) :
    Calls Try.prog 6 #[wideV W, .int .u8 n, .int .u8 m] w fun e w' => e = .returned (.bool true) ∧ Below w.heap.size w w' := by
  have hk := Kept.refl w
  have k0 : 0 ≤ n % 128 := by omega
  have k1 : n % 128 ≤ 127 := by omega
  have f1 := cut_same h
  have mr := mirror_range m0 hm
  have f2 := cut_mirror W (n % 128) m
  go_enter Try.func6, Try.ntmps6
  go_wp2_with fail
  (with_reducible refine (Cut_in hW k0 k1 m0 (by omega) _ _).mono ?_)
  rintro e w1 ⟨rfl, hb⟩
  have Bw' : Box w1 (w.heap.size) #[.int .u64 (limb 0 W), .int .u64 (limb 1 W), .int .u64 (limb 2 W), .int .u64 (limb 3 W)] := Box.call hb (by repeat (first | with_reducible assumption | with_reducible apply Box.set10 | with_reducible apply Box.set20 | with_reducible apply Box.set21 | with_reducible apply Box.set40 | with_reducible apply Box.set41 | with_reducible apply Box.set42 | with_reducible apply Box.set43 | with_reducible apply Box.set50 | with_reducible apply Box.set51 | with_reducible apply Box.set52 | with_reducible apply Box.set53 | with_reducible apply Box.set54 | with_reducible apply Box.drew | (with_reducible apply Box.newAt; (try simp only [World.size_alloc, World.size_setCell, World.size_drew]); done) | with_reducible apply Box.alloc | (with_reducible apply Box.other; case hne => ((try simp only [World.size_alloc, World.size_setCell, World.size_drew]); omega))))
  have hk' : Kept w.heap.size w w1 := Kept.step (by repeat (first | with_reducible exact hk | with_reducible exact Kept.refl _ | with_reducible refine Kept.alloc ?_ _ | with_reducible refine Kept.drew ?_ | with_reducible refine Kept.setCell ?_ (by simp only [World.size_alloc, World.size_setCell, World.size_drew]; omega) _)) hb
  clear hk hb
  have Bw := Bw'
  clear Bw'
  have hk := hk'
  clear hk'
  have hz_w1 := hk.size
  have Bwl := Bw.lt
  have Bwf := Bw.free
  have Bwl1 : w.heap.size < w1.heap.size + 1 := by omega
  have Bwl2 : w.heap.size < w1.heap.size + 1 + 1 := by omega
  have Bwl3 : w.heap.size < w1.heap.size + 1 + 1 + 1 := by omega
  have Bw0 := Bw.cell 0 _ rfl
  have Bw1 := Bw.cell 1 _ rfl
  have Bw2 := Bw.cell 2 _ rfl
  have Bw3 := Bw.cell 3 _ rfl
  go_wp2
  refine wp_region_univ 11 (fun W' => Kept w.heap.size w W' ∧ Box W' (w.heap.size) #[.int .u64 (limb 0 W), .int .u64 (limb 1 W), .int .u64 (limb 2 W), .int .u64 (limb 3 W)] ∧ Box W' (w1.heap.size) #[.int .u64 (limb 1 (cutN W (n % 128) m true)), .int .u64 (limb 0 (cutN W (n % 128) m true))]) (w1.heap.size + 1) (fun _ => #[.int .u64 0, .int .u64 0]) (by kernel_rfl) (by kernel_rfl) (fun W W' h hb => ⟨h.1.step hb, Box.call hb (h.2.1), Box.call hb (h.2.2)⟩) (fun _ h => (h.2.2).lt) (⟨(by repeat (first | with_reducible exact hk | with_reducible exact Kept.refl _ | with_reducible refine Kept.alloc ?_ _ | with_reducible refine Kept.drew ?_ | with_reducible refine Kept.setCell ?_ (by simp only [World.size_alloc, World.size_setCell, World.size_drew]; omega) _)), (by repeat (first | with_reducible assumption | with_reducible apply Box.set10 | with_reducible apply Box.set20 | with_reducible apply Box.set21 | with_reducible apply Box.set40 | with_reducible apply Box.set41 | with_reducible apply Box.set42 | with_reducible apply Box.set43 | with_reducible apply Box.set50 | with_reducible apply Box.set51 | with_reducible apply Box.set52 | with_reducible apply Box.set53 | with_reducible apply Box.set54 | with_reducible apply Box.drew | (with_reducible apply Box.newAt; (try simp only [World.size_alloc, World.size_setCell, World.size_drew]); done) | with_reducible apply Box.alloc | (with_reducible apply Box.other; case hne => ((try simp only [World.size_alloc, World.size_setCell, World.size_drew]); omega)))), (by repeat (first | with_reducible assumption | with_reducible apply Box.set10 | with_reducible apply Box.set20 | with_reducible apply Box.set21 | with_reducible apply Box.set40 | with_reducible apply Box.set41 | with_reducible apply Box.set42 | with_reducible apply Box.set43 | with_reducible apply Box.set50 | with_reducible apply Box.set51 | with_reducible apply Box.set52 | with_reducible apply Box.set53 | with_reducible apply Box.set54 | with_reducible apply Box.drew | (with_reducible apply Box.newAt; (try simp only [World.size_alloc, World.size_setCell, World.size_drew]); done) | with_reducible apply Box.alloc | (with_reducible apply Box.other; case hne => ((try simp only [World.size_alloc, World.size_setCell, World.size_drew]); omega))))⟩) ?_
  clear hk
  clear Bw Bwl1 Bwl2 Bwl3 Bwf Bw0 Bw1 Bw2 Bw3
  simp only [List.take_succ_cons, List.take_zero, List.drop_succ_cons, List.drop_zero]
  refine hv_val ?_ (by rfl) (by rfl) (by rfl) (by rfl) ?_ ?_
  rotate_left
  · intro w hS; have Q0 := (hS.2.1).cell; have q0_0 := Q0 0 _ rfl; have q0_1 := Q0 1 _ rfl; have q0_2 := Q0 2 _ rfl; have q0_3 := Q0 3 _ rfl; clear Q0; clear hS; go_simp; first | done | with_reducible rfl
  simp only [Act.put, List.setIfInBounds_toArray, List.set_cons_zero, List.set_cons_succ]
  refine hv_copy _ _ (by rfl) (by rfl) (by rfl) (by rfl) (by first | rfl | (go_simp; done) | (go_simp; rfl)) ?_
  simp only [Act.put, List.setIfInBounds_toArray, List.set_cons_zero, List.set_cons_succ]
  refine hv_copy _ _ (by rfl) (by rfl) (by rfl) (by rfl) (by first | rfl | (go_simp; done) | (go_simp; rfl)) ?_
  simp only [Act.put, List.setIfInBounds_toArray, List.set_cons_zero, List.set_cons_succ]
  refine hv_call ?_ ?_ ?_ (by rfl) (by rfl) (by rfl) (by rfl) ?_ ?_ ?_
  rotate_left 3
  · intro w hS; go_simp; first | done | with_reducible rfl | (constructor <;> with_reducible rfl)
  · intro w hS; refine (Mirror_any _ _).mono ?_; rintro e w' ⟨rfl, hb⟩; constructor; · with_reducible rfl
    · subst hb; exact Below.refl _ _
  simp only [Act.put, List.setIfInBounds_toArray, List.set_cons_zero, List.set_cons_succ]
  refine hv_call ?_ ?_ ?_ (by rfl) (by rfl) (by rfl) (by rfl) ?_ ?_ ?_
  rotate_left 3
  · intro w hS; go_simp; first | done | with_reducible rfl | (constructor <;> with_reducible rfl)
  · intro w hS; refine (Cut_in hW k0 k1 mr.1 mr.2 _ _).mono ?_; rintro e w' ⟨rfl, hb⟩; constructor; · with_reducible rfl
    · exact hb
  simp only [Act.put, List.setIfInBounds_toArray, List.set_cons_zero, List.set_cons_succ]
  refine hv_copy _ _ (by rfl) (by rfl) (by rfl) (by rfl) (by first | rfl | (go_simp; done) | (go_simp; rfl)) ?_
  simp only [Act.put, List.setIfInBounds_toArray, List.set_cons_zero, List.set_cons_succ]
  refine hv_val ?_ (by rfl) (by rfl) (by rfl) (by rfl) ?_ ?_
  rotate_left
  · intro w hS; clear hS; go_simp; first | done | with_reducible rfl
  simp only [Act.put, List.setIfInBounds_toArray, List.set_cons_zero, List.set_cons_succ]
  refine hv_val ?_ (by rfl) (by rfl) (by rfl) (by rfl) ?_ ?_
  rotate_left
  · intro w hS; clear hS; go_simp; first | done | with_reducible rfl
  simp only [Act.put, List.setIfInBounds_toArray, List.set_cons_zero, List.set_cons_succ]
  refine hv_alloc (by rfl) ⟨by rfl, ?_⟩ ?_
  · intro w; simp only [allocTy]; go_simp
  intro bc hbc
  simp only [Act.put, List.setIfInBounds_toArray, List.set_cons_zero, List.set_cons_succ]
  refine hv_store (fun W' => (True ∧ Box W' bc #[.int .u64 (limb 1 (cutN W (n % 128) m true)), .int .u64 (limb 0 (cutN W (n % 128) m true))])) (by rfl) (by rfl) (by rfl) (fun _ _ h hb => ⟨trivial, Box.call hb (h.2)⟩) ?_ ?_
  · intro w hS hE
    obtain ⟨_, Fbc⟩ := hE
    have Bbc : Box w bc _ := ⟨Fbc.lt, Fbc.cell, Fbc.free⟩
    have Q := Bbc.cell
    have q0 := Q 0 _ rfl
    have q1 := Q 1 _ rfl
    have Qf := Bbc.free
    refine ⟨((w.setCell ⟨bc, 0, none⟩ (.int .u64 (limb 1 (cutN W (n % 128) m true)))).setCell ⟨bc, 1, none⟩ (.int .u64 (limb 0 (cutN W (n % 128) m true)))), (by clear hS; go_simp; first | done | with_reducible rfl), ?_, ?_⟩
    · have hB := hbc
      have hz := hS.1.size
      have hz0 := (hS.2.1).lt
      have hz1 := (hS.2.2).lt
      exact ⟨((hS.1).setCell (p := ⟨bc, 0, none⟩) (by simp only []; omega) _).setCell (p := ⟨bc, 1, none⟩) (by simp only []; omega) _, ((hS.2.1).other (by omega)).other (by omega), ((hS.2.2).other (by omega)).other (by omega)⟩
    · exact ⟨trivial, (by with_reducible apply Box.set21; with_reducible apply Box.set20; exact Bbc)⟩
  simp only [Act.put, List.setIfInBounds_toArray, List.set_cons_zero, List.set_cons_succ]
  refine hv_copy _ _ (by rfl) (by rfl) (by rfl) (by rfl) (by first | rfl | (go_simp; done) | (go_simp; rfl)) ?_
  simp only [Act.put, List.setIfInBounds_toArray, List.set_cons_zero, List.set_cons_succ]
  intro w2 hS hE
  change wpList _ _ _ _ _ _
  obtain ⟨hk, Bw, Ba⟩ := hS
  obtain ⟨_, Fbc⟩ := hE
  have Bbc : Box w2 (bc) #[.int .u64 (limb 1 (cutN W (n % 128) m true)), .int .u64 (limb 0 (cutN W (n % 128) m true))] := ⟨Fbc.lt, Fbc.cell, Fbc.free⟩
  clear Fbc
  have hz_w2 := hk.size
  have Bwl := Bw.lt
  have Bwf := Bw.free
  have Bwl1 : w.heap.size < w2.heap.size + 1 := by omega
  have Bwl2 : w.heap.size < w2.heap.size + 1 + 1 := by omega
  have Bwl3 : w.heap.size < w2.heap.size + 1 + 1 + 1 := by omega
  have Bw0 := Bw.cell 0 _ rfl
  have Bw1 := Bw.cell 1 _ rfl
  have Bw2 := Bw.cell 2 _ rfl
  have Bw3 := Bw.cell 3 _ rfl
  have Bal := Ba.lt
  have Baf := Ba.free
  have Bal1 : w1.heap.size < w2.heap.size + 1 := by omega
  have Bal2 : w1.heap.size < w2.heap.size + 1 + 1 := by omega
  have Bal3 : w1.heap.size < w2.heap.size + 1 + 1 + 1 := by omega
  have Ba0 := Ba.cell 0 _ rfl
  have Ba1 := Ba.cell 1 _ rfl
  have Bbcl := Bbc.lt
  have Bbcf := Bbc.free
  have Bbcl1 : bc < w2.heap.size + 1 := by omega
  have Bbcl2 : bc < w2.heap.size + 1 + 1 := by omega
  have Bbcl3 : bc < w2.heap.size + 1 + 1 + 1 := by omega
  have Bbc0 := Bbc.cell 0 _ rfl
  have Bbc1 := Bbc.cell 1 _ rfl
  go_wp2_with fail
  (with_reducible refine (Cut_in hW k0 k1 (by omega) (by omega) _ _).mono ?_)
  rintro e w3 ⟨rfl, hb⟩
  have Bw' : Box w3 (w.heap.size) #[.int .u64 (limb 0 W), .int .u64 (limb 1 W), .int .u64 (limb 2 W), .int .u64 (limb 3 W)] := Box.call hb (by repeat (first | with_reducible assumption | with_reducible apply Box.set10 | with_reducible apply Box.set20 | with_reducible apply Box.set21 | with_reducible apply Box.set40 | with_reducible apply Box.set41 | with_reducible apply Box.set42 | with_reducible apply Box.set43 | with_reducible apply Box.set50 | with_reducible apply Box.set51 | with_reducible apply Box.set52 | with_reducible apply Box.set53 | with_reducible apply Box.set54 | with_reducible apply Box.drew | (with_reducible apply Box.newAt; (try simp only [World.size_alloc, World.size_setCell, World.size_drew]); done) | with_reducible apply Box.alloc | (with_reducible apply Box.other; case hne => ((try simp only [World.size_alloc, World.size_setCell, World.size_drew]); omega))))
  have Ba' : Box w3 (w1.heap.size) #[.int .u64 (limb 1 (cutN W (n % 128) m true)), .int .u64 (limb 0 (cutN W (n % 128) m true))] := Box.call hb (by repeat (first | with_reducible assumption | with_reducible apply Box.set10 | with_reducible apply Box.set20 | with_reducible apply Box.set21 | with_reducible apply Box.set40 | with_reducible apply Box.set41 | with_reducible apply Box.set42 | with_reducible apply Box.set43 | with_reducible apply Box.set50 | with_reducible apply Box.set51 | with_reducible apply Box.set52 | with_reducible apply Box.set53 | with_reducible apply Box.set54 | with_reducible apply Box.drew | (with_reducible apply Box.newAt; (try simp only [World.size_alloc, World.size_setCell, World.size_drew]); done) | with_reducible apply Box.alloc | (with_reducible apply Box.other; case hne => ((try simp only [World.size_alloc, World.size_setCell, World.size_drew]); omega))))
  have Bbc' : Box w3 (bc) #[.int .u64 (limb 1 (cutN W (n % 128) m true)), .int .u64 (limb 0 (cutN W (n % 128) m true))] := Box.call hb (by repeat (first | with_reducible assumption | with_reducible apply Box.set10 | with_reducible apply Box.set20 | with_reducible apply Box.set21 | with_reducible apply Box.set40 | with_reducible apply Box.set41 | with_reducible apply Box.set42 | with_reducible apply Box.set43 | with_reducible apply Box.set50 | with_reducible apply Box.set51 | with_reducible apply Box.set52 | with_reducible apply Box.set53 | with_reducible apply Box.set54 | with_reducible apply Box.drew | (with_reducible apply Box.newAt; (try simp only [World.size_alloc, World.size_setCell, World.size_drew]); done) | with_reducible apply Box.alloc | (with_reducible apply Box.other; case hne => ((try simp only [World.size_alloc, World.size_setCell, World.size_drew]); omega))))
  have hk' : Kept w.heap.size w w3 := Kept.step (by repeat (first | with_reducible exact hk | with_reducible exact Kept.refl _ | with_reducible refine Kept.alloc ?_ _ | with_reducible refine Kept.drew ?_ | with_reducible refine Kept.setCell ?_ (by simp only [World.size_alloc, World.size_setCell, World.size_drew]; omega) _)) hb
  clear hk hb
  clear Bw Bwl1 Bwl2 Bwl3 Bwf Bw0 Bw1 Bw2 Bw3
  clear Ba Bal1 Bal2 Bal3 Baf Ba0 Ba1
  clear Bbc Bbcl1 Bbcl2 Bbcl3 Bbcf Bbc0 Bbc1
  have Bw := Bw'
  clear Bw'
  have Ba := Ba'
  clear Ba'
  have Bbc := Bbc'
  clear Bbc'
  have hk := hk'
  clear hk'
  have hz_w3 := hk.size
  have Bwl := Bw.lt
  have Bwf := Bw.free
  have Bwl1 : w.heap.size < w3.heap.size + 1 := by omega
  have Bwl2 : w.heap.size < w3.heap.size + 1 + 1 := by omega
  have Bwl3 : w.heap.size < w3.heap.size + 1 + 1 + 1 := by omega
  have Bw0 := Bw.cell 0 _ rfl
  have Bw1 := Bw.cell 1 _ rfl
  have Bw2 := Bw.cell 2 _ rfl
  have Bw3 := Bw.cell 3 _ rfl
  have Bal := Ba.lt
  have Baf := Ba.free
  have Bal1 : w1.heap.size < w3.heap.size + 1 := by omega
  have Bal2 : w1.heap.size < w3.heap.size + 1 + 1 := by omega
  have Bal3 : w1.heap.size < w3.heap.size + 1 + 1 + 1 := by omega
  have Ba0 := Ba.cell 0 _ rfl
  have Ba1 := Ba.cell 1 _ rfl
  have Bbcl := Bbc.lt
  have Bbcf := Bbc.free
  have Bbcl1 : bc < w3.heap.size + 1 := by omega
  have Bbcl2 : bc < w3.heap.size + 1 + 1 := by omega
  have Bbcl3 : bc < w3.heap.size + 1 + 1 + 1 := by omega
  have Bbc0 := Bbc.cell 0 _ rfl
  have Bbc1 := Bbc.cell 1 _ rfl
  go_wp2_with fail
  (with_reducible refine (Cut_in hW k0 k1 (by omega) (by omega) _ _).mono ?_)
  rintro e w4 ⟨rfl, hb⟩
  have Bw' : Box w4 (w.heap.size) #[.int .u64 (limb 0 W), .int .u64 (limb 1 W), .int .u64 (limb 2 W), .int .u64 (limb 3 W)] := Box.call hb (by repeat (first | with_reducible assumption | with_reducible apply Box.set10 | with_reducible apply Box.set20 | with_reducible apply Box.set21 | with_reducible apply Box.set40 | with_reducible apply Box.set41 | with_reducible apply Box.set42 | with_reducible apply Box.set43 | with_reducible apply Box.set50 | with_reducible apply Box.set51 | with_reducible apply Box.set52 | with_reducible apply Box.set53 | with_reducible apply Box.set54 | with_reducible apply Box.drew | (with_reducible apply Box.newAt; (try simp only [World.size_alloc, World.size_setCell, World.size_drew]); done) | with_reducible apply Box.alloc | (with_reducible apply Box.other; case hne => ((try simp only [World.size_alloc, World.size_setCell, World.size_drew]); omega))))
  have Ba' : Box w4 (w1.heap.size) #[.int .u64 (limb 1 (cutN W (n % 128) m true)), .int .u64 (limb 0 (cutN W (n % 128) m true))] := Box.call hb (by repeat (first | with_reducible assumption | with_reducible apply Box.set10 | with_reducible apply Box.set20 | with_reducible apply Box.set21 | with_reducible apply Box.set40 | with_reducible apply Box.set41 | with_reducible apply Box.set42 | with_reducible apply Box.set43 | with_reducible apply Box.set50 | with_reducible apply Box.set51 | with_reducible apply Box.set52 | with_reducible apply Box.set53 | with_reducible apply Box.set54 | with_reducible apply Box.drew | (with_reducible apply Box.newAt; (try simp only [World.size_alloc, World.size_setCell, World.size_drew]); done) | with_reducible apply Box.alloc | (with_reducible apply Box.other; case hne => ((try simp only [World.size_alloc, World.size_setCell, World.size_drew]); omega))))
  have Bbc' : Box w4 (bc) #[.int .u64 (limb 1 (cutN W (n % 128) m true)), .int .u64 (limb 0 (cutN W (n % 128) m true))] := Box.call hb (by repeat (first | with_reducible assumption | with_reducible apply Box.set10 | with_reducible apply Box.set20 | with_reducible apply Box.set21 | with_reducible apply Box.set40 | with_reducible apply Box.set41 | with_reducible apply Box.set42 | with_reducible apply Box.set43 | with_reducible apply Box.set50 | with_reducible apply Box.set51 | with_reducible apply Box.set52 | with_reducible apply Box.set53 | with_reducible apply Box.set54 | with_reducible apply Box.drew | (with_reducible apply Box.newAt; (try simp only [World.size_alloc, World.size_setCell, World.size_drew]); done) | with_reducible apply Box.alloc | (with_reducible apply Box.other; case hne => ((try simp only [World.size_alloc, World.size_setCell, World.size_drew]); omega))))
  have Bu' : Box w4 (w3.heap.size) #[.int .u64 (limb 1 (cutN W (n % 128) 3 false)), .int .u64 (limb 0 (cutN W (n % 128) 3 false))] := Box.call hb (by repeat (first | with_reducible assumption | with_reducible apply Box.set10 | with_reducible apply Box.set20 | with_reducible apply Box.set21 | with_reducible apply Box.set40 | with_reducible apply Box.set41 | with_reducible apply Box.set42 | with_reducible apply Box.set43 | with_reducible apply Box.set50 | with_reducible apply Box.set51 | with_reducible apply Box.set52 | with_reducible apply Box.set53 | with_reducible apply Box.set54 | with_reducible apply Box.drew | (with_reducible apply Box.newAt; (try simp only [World.size_alloc, World.size_setCell, World.size_drew]); done) | with_reducible apply Box.alloc | (with_reducible apply Box.other; case hne => ((try simp only [World.size_alloc, World.size_setCell, World.size_drew]); omega))))
  have hk' : Kept w.heap.size w w4 := Kept.step (by repeat (first | with_reducible exact hk | with_reducible exact Kept.refl _ | with_reducible refine Kept.alloc ?_ _ | with_reducible refine Kept.drew ?_ | with_reducible refine Kept.setCell ?_ (by simp only [World.size_alloc, World.size_setCell, World.size_drew]; omega) _)) hb
  clear hk hb
  clear Bw Bwl1 Bwl2 Bwl3 Bwf Bw0 Bw1 Bw2 Bw3
  clear Ba Bal1 Bal2 Bal3 Baf Ba0 Ba1
  clear Bbc Bbcl1 Bbcl2 Bbcl3 Bbcf Bbc0 Bbc1
  have Bw := Bw'
  clear Bw'
  have Ba := Ba'
  clear Ba'
  have Bbc := Bbc'
  clear Bbc'
  have Bu := Bu'
  clear Bu'
  have hk := hk'
  clear hk'
  have hz_w4 := hk.size
  have Bwl := Bw.lt
  have Bwf := Bw.free
  have Bwl1 : w.heap.size < w4.heap.size + 1 := by omega
  have Bwl2 : w.heap.size < w4.heap.size + 1 + 1 := by omega
  have Bwl3 : w.heap.size < w4.heap.size + 1 + 1 + 1 := by omega
  have Bw0 := Bw.cell 0 _ rfl
  have Bw1 := Bw.cell 1 _ rfl
  have Bw2 := Bw.cell 2 _ rfl
  have Bw3 := Bw.cell 3 _ rfl
  have Bal := Ba.lt
  have Baf := Ba.free
  have Bal1 : w1.heap.size < w4.heap.size + 1 := by omega
  have Bal2 : w1.heap.size < w4.heap.size + 1 + 1 := by omega
  have Bal3 : w1.heap.size < w4.heap.size + 1 + 1 + 1 := by omega
  have Ba0 := Ba.cell 0 _ rfl
  have Ba1 := Ba.cell 1 _ rfl
  have Bbcl := Bbc.lt
  have Bbcf := Bbc.free
  have Bbcl1 : bc < w4.heap.size + 1 := by omega
  have Bbcl2 : bc < w4.heap.size + 1 + 1 := by omega
  have Bbcl3 : bc < w4.heap.size + 1 + 1 + 1 := by omega
  have Bbc0 := Bbc.cell 0 _ rfl
  have Bbc1 := Bbc.cell 1 _ rfl
  have Bul := Bu.lt
  have Buf := Bu.free
  have Bul1 : w3.heap.size < w4.heap.size + 1 := by omega
  have Bul2 : w3.heap.size < w4.heap.size + 1 + 1 := by omega
  have Bul3 : w3.heap.size < w4.heap.size + 1 + 1 + 1 := by omega
  have Bu0 := Bu.cell 0 _ rfl
  have Bu1 := Bu.cell 1 _ rfl
  go_wp2_with fail
  (with_reducible refine (Add_at (IsBits.of (cut_w hW k0 k1 _ _)) (IsBits.val u64_zero (isU64_mk (by decide +kernel))) _).mono ?_)
  rintro e w5 ⟨rfl, hb⟩
  have Bw' : Box w5 (w.heap.size) #[.int .u64 (limb 0 W), .int .u64 (limb 1 W), .int .u64 (limb 2 W), .int .u64 (limb 3 W)] := Box.call hb (by repeat (first | with_reducible assumption | with_reducible apply Box.set10 | with_reducible apply Box.set20 | with_reducible apply Box.set21 | with_reducible apply Box.set40 | with_reducible apply Box.set41 | with_reducible apply Box.set42 | with_reducible apply Box.set43 | with_reducible apply Box.set50 | with_reducible apply Box.set51 | with_reducible apply Box.set52 | with_reducible apply Box.set53 | with_reducible apply Box.set54 | with_reducible apply Box.drew | (with_reducible apply Box.newAt; (try simp only [World.size_alloc, World.size_setCell, World.size_drew]); done) | with_reducible apply Box.alloc | (with_reducible apply Box.other; case hne => ((try simp only [World.size_alloc, World.size_setCell, World.size_drew]); omega))))
  have Ba' : Box w5 (w1.heap.size) #[.int .u64 (limb 1 (cutN W (n % 128) m true)), .int .u64 (limb 0 (cutN W (n % 128) m true))] := Box.call hb (by repeat (first | with_reducible assumption | with_reducible apply Box.set10 | with_reducible apply Box.set20 | with_reducible apply Box.set21 | with_reducible apply Box.set40 | with_reducible apply Box.set41 | with_reducible apply Box.set42 | with_reducible apply Box.set43 | with_reducible apply Box.set50 | with_reducible apply Box.set51 | with_reducible apply Box.set52 | with_reducible apply Box.set53 | with_reducible apply Box.set54 | with_reducible apply Box.drew | (with_reducible apply Box.newAt; (try simp only [World.size_alloc, World.size_setCell, World.size_drew]); done) | with_reducible apply Box.alloc | (with_reducible apply Box.other; case hne => ((try simp only [World.size_alloc, World.size_setCell, World.size_drew]); omega))))
  have Bbc' : Box w5 (bc) #[.int .u64 (limb 1 (cutN W (n % 128) m true)), .int .u64 (limb 0 (cutN W (n % 128) m true))] := Box.call hb (by repeat (first | with_reducible assumption | with_reducible apply Box.set10 | with_reducible apply Box.set20 | with_reducible apply Box.set21 | with_reducible apply Box.set40 | with_reducible apply Box.set41 | with_reducible apply Box.set42 | with_reducible apply Box.set43 | with_reducible apply Box.set50 | with_reducible apply Box.set51 | with_reducible apply Box.set52 | with_reducible apply Box.set53 | with_reducible apply Box.set54 | with_reducible apply Box.drew | (with_reducible apply Box.newAt; (try simp only [World.size_alloc, World.size_setCell, World.size_drew]); done) | with_reducible apply Box.alloc | (with_reducible apply Box.other; case hne => ((try simp only [World.size_alloc, World.size_setCell, World.size_drew]); omega))))
  have Bu' : Box w5 (w3.heap.size) #[.int .u64 (limb 1 (cutN W (n % 128) 3 false)), .int .u64 (limb 0 (cutN W (n % 128) 3 false))] := Box.call hb (by repeat (first | with_reducible assumption | with_reducible apply Box.set10 | with_reducible apply Box.set20 | with_reducible apply Box.set21 | with_reducible apply Box.set40 | with_reducible apply Box.set41 | with_reducible apply Box.set42 | with_reducible apply Box.set43 | with_reducible apply Box.set50 | with_reducible apply Box.set51 | with_reducible apply Box.set52 | with_reducible apply Box.set53 | with_reducible apply Box.set54 | with_reducible apply Box.drew | (with_reducible apply Box.newAt; (try simp only [World.size_alloc, World.size_setCell, World.size_drew]); done) | with_reducible apply Box.alloc | (with_reducible apply Box.other; case hne => ((try simp only [World.size_alloc, World.size_setCell, World.size_drew]); omega))))
  have Bd' : Box w5 (w4.heap.size) #[.int .u64 (limb 1 (cutN W (n % 128) 3 false)), .int .u64 (limb 0 (cutN W (n % 128) 3 false))] := Box.call hb (by repeat (first | with_reducible assumption | with_reducible apply Box.set10 | with_reducible apply Box.set20 | with_reducible apply Box.set21 | with_reducible apply Box.set40 | with_reducible apply Box.set41 | with_reducible apply Box.set42 | with_reducible apply Box.set43 | with_reducible apply Box.set50 | with_reducible apply Box.set51 | with_reducible apply Box.set52 | with_reducible apply Box.set53 | with_reducible apply Box.set54 | with_reducible apply Box.drew | (with_reducible apply Box.newAt; (try simp only [World.size_alloc, World.size_setCell, World.size_drew]); done) | with_reducible apply Box.alloc | (with_reducible apply Box.other; case hne => ((try simp only [World.size_alloc, World.size_setCell, World.size_drew]); omega))))
  have hk' : Kept w.heap.size w w5 := Kept.step (by repeat (first | with_reducible exact hk | with_reducible exact Kept.refl _ | with_reducible refine Kept.alloc ?_ _ | with_reducible refine Kept.drew ?_ | with_reducible refine Kept.setCell ?_ (by simp only [World.size_alloc, World.size_setCell, World.size_drew]; omega) _)) hb
  clear hk hb
  clear Bw Bwl1 Bwl2 Bwl3 Bwf Bw0 Bw1 Bw2 Bw3
  clear Ba Bal1 Bal2 Bal3 Baf Ba0 Ba1
  clear Bbc Bbcl1 Bbcl2 Bbcl3 Bbcf Bbc0 Bbc1
  clear Bu Bul1 Bul2 Bul3 Buf Bu0 Bu1
  have Bw := Bw'
  clear Bw'
  have Ba := Ba'
  clear Ba'
  have Bbc := Bbc'
  clear Bbc'
  have Bu := Bu'
  clear Bu'
  have Bd := Bd'
  clear Bd'
  have hk := hk'
  clear hk'
  have hz_w5 := hk.size
  have Bwl := Bw.lt
  have Bwf := Bw.free
  have Bwl1 : w.heap.size < w5.heap.size + 1 := by omega
  have Bwl2 : w.heap.size < w5.heap.size + 1 + 1 := by omega
  have Bwl3 : w.heap.size < w5.heap.size + 1 + 1 + 1 := by omega
  have Bw0 := Bw.cell 0 _ rfl
  have Bw1 := Bw.cell 1 _ rfl
  have Bw2 := Bw.cell 2 _ rfl
  have Bw3 := Bw.cell 3 _ rfl
  have Bal := Ba.lt
  have Baf := Ba.free
  have Bal1 : w1.heap.size < w5.heap.size + 1 := by omega
  have Bal2 : w1.heap.size < w5.heap.size + 1 + 1 := by omega
  have Bal3 : w1.heap.size < w5.heap.size + 1 + 1 + 1 := by omega
  have Ba0 := Ba.cell 0 _ rfl
  have Ba1 := Ba.cell 1 _ rfl
  have Bbcl := Bbc.lt
  have Bbcf := Bbc.free
  have Bbcl1 : bc < w5.heap.size + 1 := by omega
  have Bbcl2 : bc < w5.heap.size + 1 + 1 := by omega
  have Bbcl3 : bc < w5.heap.size + 1 + 1 + 1 := by omega
  have Bbc0 := Bbc.cell 0 _ rfl
  have Bbc1 := Bbc.cell 1 _ rfl
  have Bul := Bu.lt
  have Buf := Bu.free
  have Bul1 : w3.heap.size < w5.heap.size + 1 := by omega
  have Bul2 : w3.heap.size < w5.heap.size + 1 + 1 := by omega
  have Bul3 : w3.heap.size < w5.heap.size + 1 + 1 + 1 := by omega
  have Bu0 := Bu.cell 0 _ rfl
  have Bu1 := Bu.cell 1 _ rfl
  have Bdl := Bd.lt
  have Bdf := Bd.free
  have Bdl1 : w4.heap.size < w5.heap.size + 1 := by omega
  have Bdl2 : w4.heap.size < w5.heap.size + 1 + 1 := by omega
  have Bdl3 : w4.heap.size < w5.heap.size + 1 + 1 + 1 := by omega
  have Bd0 := Bd.cell 0 _ rfl
  have Bd1 := Bd.cell 1 _ rfl
  go_wp2_with fail
  (with_reducible refine (goes15_any _).mono ?_)
  rintro e w6 ⟨rfl, hb⟩
  have Bw' : Box w6 (w.heap.size) #[.int .u64 (limb 0 W), .int .u64 (limb 1 W), .int .u64 (limb 2 W), .int .u64 (limb 3 W)] := Box.call hb (by repeat (first | with_reducible assumption | with_reducible apply Box.set10 | with_reducible apply Box.set20 | with_reducible apply Box.set21 | with_reducible apply Box.set40 | with_reducible apply Box.set41 | with_reducible apply Box.set42 | with_reducible apply Box.set43 | with_reducible apply Box.set50 | with_reducible apply Box.set51 | with_reducible apply Box.set52 | with_reducible apply Box.set53 | with_reducible apply Box.set54 | with_reducible apply Box.drew | (with_reducible apply Box.newAt; (try simp only [World.size_alloc, World.size_setCell, World.size_drew]); done) | with_reducible apply Box.alloc | (with_reducible apply Box.other; case hne => ((try simp only [World.size_alloc, World.size_setCell, World.size_drew]); omega))))
  have Ba' : Box w6 (w1.heap.size) #[.int .u64 (limb 1 (cutN W (n % 128) m true)), .int .u64 (limb 0 (cutN W (n % 128) m true))] := Box.call hb (by repeat (first | with_reducible assumption | with_reducible apply Box.set10 | with_reducible apply Box.set20 | with_reducible apply Box.set21 | with_reducible apply Box.set40 | with_reducible apply Box.set41 | with_reducible apply Box.set42 | with_reducible apply Box.set43 | with_reducible apply Box.set50 | with_reducible apply Box.set51 | with_reducible apply Box.set52 | with_reducible apply Box.set53 | with_reducible apply Box.set54 | with_reducible apply Box.drew | (with_reducible apply Box.newAt; (try simp only [World.size_alloc, World.size_setCell, World.size_drew]); done) | with_reducible apply Box.alloc | (with_reducible apply Box.other; case hne => ((try simp only [World.size_alloc, World.size_setCell, World.size_drew]); omega))))
  have Bbc' : Box w6 (bc) #[.int .u64 (limb 1 (cutN W (n % 128) m true)), .int .u64 (limb 0 (cutN W (n % 128) m true))] := Box.call hb (by repeat (first | with_reducible assumption | with_reducible apply Box.set10 | with_reducible apply Box.set20 | with_reducible apply Box.set21 | with_reducible apply Box.set40 | with_reducible apply Box.set41 | with_reducible apply Box.set42 | with_reducible apply Box.set43 | with_reducible apply Box.set50 | with_reducible apply Box.set51 | with_reducible apply Box.set52 | with_reducible apply Box.set53 | with_reducible apply Box.set54 | with_reducible apply Box.drew | (with_reducible apply Box.newAt; (try simp only [World.size_alloc, World.size_setCell, World.size_drew]); done) | with_reducible apply Box.alloc | (with_reducible apply Box.other; case hne => ((try simp only [World.size_alloc, World.size_setCell, World.size_drew]); omega))))
  have Bu' : Box w6 (w3.heap.size) #[.int .u64 (limb 1 (cutN W (n % 128) 3 false)), .int .u64 (limb 0 (cutN W (n % 128) 3 false))] := Box.call hb (by repeat (first | with_reducible assumption | with_reducible apply Box.set10 | with_reducible apply Box.set20 | with_reducible apply Box.set21 | with_reducible apply Box.set40 | with_reducible apply Box.set41 | with_reducible apply Box.set42 | with_reducible apply Box.set43 | with_reducible apply Box.set50 | with_reducible apply Box.set51 | with_reducible apply Box.set52 | with_reducible apply Box.set53 | with_reducible apply Box.set54 | with_reducible apply Box.drew | (with_reducible apply Box.newAt; (try simp only [World.size_alloc, World.size_setCell, World.size_drew]); done) | with_reducible apply Box.alloc | (with_reducible apply Box.other; case hne => ((try simp only [World.size_alloc, World.size_setCell, World.size_drew]); omega))))
  have Bd' : Box w6 (w4.heap.size) #[.int .u64 (limb 1 (cutN W (n % 128) 3 false)), .int .u64 (limb 0 (cutN W (n % 128) 3 false))] := Box.call hb (by repeat (first | with_reducible assumption | with_reducible apply Box.set10 | with_reducible apply Box.set20 | with_reducible apply Box.set21 | with_reducible apply Box.set40 | with_reducible apply Box.set41 | with_reducible apply Box.set42 | with_reducible apply Box.set43 | with_reducible apply Box.set50 | with_reducible apply Box.set51 | with_reducible apply Box.set52 | with_reducible apply Box.set53 | with_reducible apply Box.set54 | with_reducible apply Box.drew | (with_reducible apply Box.newAt; (try simp only [World.size_alloc, World.size_setCell, World.size_drew]); done) | with_reducible apply Box.alloc | (with_reducible apply Box.other; case hne => ((try simp only [World.size_alloc, World.size_setCell, World.size_drew]); omega))))
  have Bn' : Box w6 (w5.heap.size) #[.int .u64 (limb 1 (add128 (cutN W (n % 128) 3 false) (val2 1 0))), .int .u64 (limb 0 (add128 (cutN W (n % 128) 3 false) (val2 1 0)))] := Box.call hb (by repeat (first | with_reducible assumption | with_reducible apply Box.set10 | with_reducible apply Box.set20 | with_reducible apply Box.set21 | with_reducible apply Box.set40 | with_reducible apply Box.set41 | with_reducible apply Box.set42 | with_reducible apply Box.set43 | with_reducible apply Box.set50 | with_reducible apply Box.set51 | with_reducible apply Box.set52 | with_reducible apply Box.set53 | with_reducible apply Box.set54 | with_reducible apply Box.drew | (with_reducible apply Box.newAt; (try simp only [World.size_alloc, World.size_setCell, World.size_drew]); done) | with_reducible apply Box.alloc | (with_reducible apply Box.other; case hne => ((try simp only [World.size_alloc, World.size_setCell, World.size_drew]); omega))))
  have hk' : Kept w.heap.size w w6 := Kept.step (by repeat (first | with_reducible exact hk | with_reducible exact Kept.refl _ | with_reducible refine Kept.alloc ?_ _ | with_reducible refine Kept.drew ?_ | with_reducible refine Kept.setCell ?_ (by simp only [World.size_alloc, World.size_setCell, World.size_drew]; omega) _)) hb
  clear hk hb
  clear Bw Bwl1 Bwl2 Bwl3 Bwf Bw0 Bw1 Bw2 Bw3
  clear Ba Bal1 Bal2 Bal3 Baf Ba0 Ba1
  clear Bbc Bbcl1 Bbcl2 Bbcl3 Bbcf Bbc0 Bbc1
  clear Bu Bul1 Bul2 Bul3 Buf Bu0 Bu1
  clear Bd Bdl1 Bdl2 Bdl3 Bdf Bd0 Bd1
  have Bw := Bw'
  clear Bw'
  have Ba := Ba'
  clear Ba'
  have Bbc := Bbc'
  clear Bbc'
  have Bu := Bu'
  clear Bu'
  have Bd := Bd'
  clear Bd'
  have Bn := Bn'
  clear Bn'
  have hk := hk'
  clear hk'
  have hz_w6 := hk.size
  have Bwl := Bw.lt
  have Bwf := Bw.free
  have Bwl1 : w.heap.size < w6.heap.size + 1 := by omega
  have Bwl2 : w.heap.size < w6.heap.size + 1 + 1 := by omega
  have Bwl3 : w.heap.size < w6.heap.size + 1 + 1 + 1 := by omega
  have Bw0 := Bw.cell 0 _ rfl
  have Bw1 := Bw.cell 1 _ rfl
  have Bw2 := Bw.cell 2 _ rfl
  have Bw3 := Bw.cell 3 _ rfl
  have Bal := Ba.lt
  have Baf := Ba.free
  have Bal1 : w1.heap.size < w6.heap.size + 1 := by omega
  have Bal2 : w1.heap.size < w6.heap.size + 1 + 1 := by omega
  have Bal3 : w1.heap.size < w6.heap.size + 1 + 1 + 1 := by omega
  have Ba0 := Ba.cell 0 _ rfl
  have Ba1 := Ba.cell 1 _ rfl
  have Bbcl := Bbc.lt
  have Bbcf := Bbc.free
  have Bbcl1 : bc < w6.heap.size + 1 := by omega
  have Bbcl2 : bc < w6.heap.size + 1 + 1 := by omega
  have Bbcl3 : bc < w6.heap.size + 1 + 1 + 1 := by omega
  have Bbc0 := Bbc.cell 0 _ rfl
  have Bbc1 := Bbc.cell 1 _ rfl
  have Bul := Bu.lt
  have Buf := Bu.free
  have Bul1 : w3.heap.size < w6.heap.size + 1 := by omega
  have Bul2 : w3.heap.size < w6.heap.size + 1 + 1 := by omega
  have Bul3 : w3.heap.size < w6.heap.size + 1 + 1 + 1 := by omega
  have Bu0 := Bu.cell 0 _ rfl
  have Bu1 := Bu.cell 1 _ rfl
  have Bdl := Bd.lt
  have Bdf := Bd.free
  have Bdl1 : w4.heap.size < w6.heap.size + 1 := by omega
  have Bdl2 : w4.heap.size < w6.heap.size + 1 + 1 := by omega
  have Bdl3 : w4.heap.size < w6.heap.size + 1 + 1 + 1 := by omega
  have Bd0 := Bd.cell 0 _ rfl
  have Bd1 := Bd.cell 1 _ rfl
  have Bnl := Bn.lt
  have Bnf := Bn.free
  have Bnl1 : w5.heap.size < w6.heap.size + 1 := by omega
  have Bnl2 : w5.heap.size < w6.heap.size + 1 + 1 := by omega
  have Bnl3 : w5.heap.size < w6.heap.size + 1 + 1 + 1 := by omega
  have Bn0 := Bn.cell 0 _ rfl
  have Bn1 := Bn.cell 1 _ rfl
  go_wp2
  go_ret
  exact ⟨rfl, (by refine Kept.below ?_; repeat (first | with_reducible exact hk | with_reducible exact Kept.refl _ | with_reducible refine Kept.alloc ?_ _ | with_reducible refine Kept.drew ?_ | with_reducible refine Kept.setCell ?_ (by simp only [World.size_alloc, World.size_setCell, World.size_drew]; omega) _))⟩

set_option maxRecDepth 100000 in
set_option maxHeartbeats 8000000 in
theorem RoundMirror_om {W : Nat} (hW : W256 W) {n m : Int} (n0 : 0 ≤ n) (n1 : n ≤ 255) (m0 : 0 ≤ m) (m1 : m ≤ 255) (hm : 4 < m) (h : moreB W (n % 128) = true) (w : World) :
    Calls Try.prog 6 #[wideV W, .int .u8 n, .int .u8 m] w fun e w' => e = .returned (.bool true) ∧ Below w.heap.size w w' := by
  have hk := Kept.refl w
  have k0 : 0 ≤ n % 128 := by omega
  have k1 : n % 128 ≤ 127 := by omega
  have f1 := cut_next hW k0 k1 h
  have f2 := mirror_far hm
  go_enter Try.func6, Try.ntmps6
  go_wp2_with fail
  (with_reducible refine (Cut_out _ _ _ _ (by omega) _ _).mono ?_)
  rintro e w1 ⟨rfl, hb⟩
  have Bw' : Box w1 (w.heap.size) #[.int .u64 (limb 0 W), .int .u64 (limb 1 W), .int .u64 (limb 2 W), .int .u64 (limb 3 W)] := Box.call hb (by repeat (first | with_reducible assumption | with_reducible apply Box.set10 | with_reducible apply Box.set20 | with_reducible apply Box.set21 | with_reducible apply Box.set40 | with_reducible apply Box.set41 | with_reducible apply Box.set42 | with_reducible apply Box.set43 | with_reducible apply Box.set50 | with_reducible apply Box.set51 | with_reducible apply Box.set52 | with_reducible apply Box.set53 | with_reducible apply Box.set54 | with_reducible apply Box.drew | (with_reducible apply Box.newAt; (try simp only [World.size_alloc, World.size_setCell, World.size_drew]); done) | with_reducible apply Box.alloc | (with_reducible apply Box.other; case hne => ((try simp only [World.size_alloc, World.size_setCell, World.size_drew]); omega))))
  have hk' : Kept w.heap.size w w1 := Kept.step (by repeat (first | with_reducible exact hk | with_reducible exact Kept.refl _ | with_reducible refine Kept.alloc ?_ _ | with_reducible refine Kept.drew ?_ | with_reducible refine Kept.setCell ?_ (by simp only [World.size_alloc, World.size_setCell, World.size_drew]; omega) _)) hb
  clear hk hb
  have Bw := Bw'
  clear Bw'
  have hk := hk'
  clear hk'
  have hz_w1 := hk.size
  have Bwl := Bw.lt
  have Bwf := Bw.free
  have Bwl1 : w.heap.size < w1.heap.size + 1 := by omega
  have Bwl2 : w.heap.size < w1.heap.size + 1 + 1 := by omega
  have Bwl3 : w.heap.size < w1.heap.size + 1 + 1 + 1 := by omega
  have Bw0 := Bw.cell 0 _ rfl
  have Bw1 := Bw.cell 1 _ rfl
  have Bw2 := Bw.cell 2 _ rfl
  have Bw3 := Bw.cell 3 _ rfl
  go_wp2
  refine wp_region_univ 11 (fun W' => Kept w.heap.size w W' ∧ Box W' (w.heap.size) #[.int .u64 (limb 0 W), .int .u64 (limb 1 W), .int .u64 (limb 2 W), .int .u64 (limb 3 W)] ∧ Box W' (w1.heap.size) #[.int .u64 0, .int .u64 0]) (w1.heap.size + 1) (fun _ => #[.int .u64 0, .int .u64 0]) (by kernel_rfl) (by kernel_rfl) (fun W W' h hb => ⟨h.1.step hb, Box.call hb (h.2.1), Box.call hb (h.2.2)⟩) (fun _ h => (h.2.2).lt) (⟨(by repeat (first | with_reducible exact hk | with_reducible exact Kept.refl _ | with_reducible refine Kept.alloc ?_ _ | with_reducible refine Kept.drew ?_ | with_reducible refine Kept.setCell ?_ (by simp only [World.size_alloc, World.size_setCell, World.size_drew]; omega) _)), (by repeat (first | with_reducible assumption | with_reducible apply Box.set10 | with_reducible apply Box.set20 | with_reducible apply Box.set21 | with_reducible apply Box.set40 | with_reducible apply Box.set41 | with_reducible apply Box.set42 | with_reducible apply Box.set43 | with_reducible apply Box.set50 | with_reducible apply Box.set51 | with_reducible apply Box.set52 | with_reducible apply Box.set53 | with_reducible apply Box.set54 | with_reducible apply Box.drew | (with_reducible apply Box.newAt; (try simp only [World.size_alloc, World.size_setCell, World.size_drew]); done) | with_reducible apply Box.alloc | (with_reducible apply Box.other; case hne => ((try simp only [World.size_alloc, World.size_setCell, World.size_drew]); omega)))), (by repeat (first | with_reducible assumption | with_reducible apply Box.set10 | with_reducible apply Box.set20 | with_reducible apply Box.set21 | with_reducible apply Box.set40 | with_reducible apply Box.set41 | with_reducible apply Box.set42 | with_reducible apply Box.set43 | with_reducible apply Box.set50 | with_reducible apply Box.set51 | with_reducible apply Box.set52 | with_reducible apply Box.set53 | with_reducible apply Box.set54 | with_reducible apply Box.drew | (with_reducible apply Box.newAt; (try simp only [World.size_alloc, World.size_setCell, World.size_drew]); done) | with_reducible apply Box.alloc | (with_reducible apply Box.other; case hne => ((try simp only [World.size_alloc, World.size_setCell, World.size_drew]); omega))))⟩) ?_
  clear hk
  clear Bw Bwl1 Bwl2 Bwl3 Bwf Bw0 Bw1 Bw2 Bw3
  simp only [List.take_succ_cons, List.take_zero, List.drop_succ_cons, List.drop_zero]
  refine hv_val ?_ (by rfl) (by rfl) (by rfl) (by rfl) ?_ ?_
  rotate_left
  · intro w hS; have Q0 := (hS.2.1).cell; have q0_0 := Q0 0 _ rfl; have q0_1 := Q0 1 _ rfl; have q0_2 := Q0 2 _ rfl; have q0_3 := Q0 3 _ rfl; clear Q0; clear hS; go_simp; first | done | with_reducible rfl
  simp only [Act.put, List.setIfInBounds_toArray, List.set_cons_zero, List.set_cons_succ]
  refine hv_copy _ _ (by rfl) (by rfl) (by rfl) (by rfl) (by first | rfl | (go_simp; done) | (go_simp; rfl)) ?_
  simp only [Act.put, List.setIfInBounds_toArray, List.set_cons_zero, List.set_cons_succ]
  refine hv_copy _ _ (by rfl) (by rfl) (by rfl) (by rfl) (by first | rfl | (go_simp; done) | (go_simp; rfl)) ?_
  simp only [Act.put, List.setIfInBounds_toArray, List.set_cons_zero, List.set_cons_succ]
  refine hv_call ?_ ?_ ?_ (by rfl) (by rfl) (by rfl) (by rfl) ?_ ?_ ?_
  rotate_left 3
  · intro w hS; go_simp; first | done | with_reducible rfl | (constructor <;> with_reducible rfl)
  · intro w hS; refine (Mirror_any _ _).mono ?_; rintro e w' ⟨rfl, hb⟩; constructor; · with_reducible rfl
    · subst hb; exact Below.refl _ _
  simp only [Act.put, List.setIfInBounds_toArray, List.set_cons_zero, List.set_cons_succ]
  refine hv_call ?_ ?_ ?_ (by rfl) (by rfl) (by rfl) (by rfl) ?_ ?_ ?_
  rotate_left 3
  · intro w hS; go_simp; first | done | with_reducible rfl | (constructor <;> with_reducible rfl)
  · intro w hS; refine (Cut_out _ _ _ _ (by omega) _ _).mono ?_; rintro e w' ⟨rfl, hb⟩; constructor; · with_reducible rfl
    · exact hb
  simp only [Act.put, List.setIfInBounds_toArray, List.set_cons_zero, List.set_cons_succ]
  refine hv_copy _ _ (by rfl) (by rfl) (by rfl) (by rfl) (by first | rfl | (go_simp; done) | (go_simp; rfl)) ?_
  simp only [Act.put, List.setIfInBounds_toArray, List.set_cons_zero, List.set_cons_succ]
  refine hv_val ?_ (by rfl) (by rfl) (by rfl) (by rfl) ?_ ?_
  rotate_left
  · intro w hS; clear hS; go_simp; first | done | with_reducible rfl
  simp only [Act.put, List.setIfInBounds_toArray, List.set_cons_zero, List.set_cons_succ]
  refine hv_val ?_ (by rfl) (by rfl) (by rfl) (by rfl) ?_ ?_
  rotate_left
  · intro w hS; clear hS; go_simp; first | done | with_reducible rfl
  simp only [Act.put, List.setIfInBounds_toArray, List.set_cons_zero, List.set_cons_succ]
  refine hv_alloc (by rfl) ⟨by rfl, ?_⟩ ?_
  · intro w; simp only [allocTy]; go_simp
  intro bc hbc
  simp only [Act.put, List.setIfInBounds_toArray, List.set_cons_zero, List.set_cons_succ]
  refine hv_store (fun W' => (True ∧ Box W' bc #[.int .u64 0, .int .u64 0])) (by rfl) (by rfl) (by rfl) (fun _ _ h hb => ⟨trivial, Box.call hb (h.2)⟩) ?_ ?_
  · intro w hS hE
    obtain ⟨_, Fbc⟩ := hE
    have Bbc : Box w bc _ := ⟨Fbc.lt, Fbc.cell, Fbc.free⟩
    have Q := Bbc.cell
    have q0 := Q 0 _ rfl
    have q1 := Q 1 _ rfl
    have Qf := Bbc.free
    refine ⟨((w.setCell ⟨bc, 0, none⟩ (.int .u64 0)).setCell ⟨bc, 1, none⟩ (.int .u64 0)), (by clear hS; go_simp; first | done | with_reducible rfl), ?_, ?_⟩
    · have hB := hbc
      have hz := hS.1.size
      have hz0 := (hS.2.1).lt
      have hz1 := (hS.2.2).lt
      exact ⟨((hS.1).setCell (p := ⟨bc, 0, none⟩) (by simp only []; omega) _).setCell (p := ⟨bc, 1, none⟩) (by simp only []; omega) _, ((hS.2.1).other (by omega)).other (by omega), ((hS.2.2).other (by omega)).other (by omega)⟩
    · exact ⟨trivial, (by with_reducible apply Box.set21; with_reducible apply Box.set20; exact Bbc)⟩
  simp only [Act.put, List.setIfInBounds_toArray, List.set_cons_zero, List.set_cons_succ]
  refine hv_copy _ _ (by rfl) (by rfl) (by rfl) (by rfl) (by first | rfl | (go_simp; done) | (go_simp; rfl)) ?_
  simp only [Act.put, List.setIfInBounds_toArray, List.set_cons_zero, List.set_cons_succ]
  intro w2 hS hE
  change wpList _ _ _ _ _ _
  obtain ⟨hk, Bw, Ba⟩ := hS
  obtain ⟨_, Fbc⟩ := hE
  have Bbc : Box w2 (bc) #[.int .u64 0, .int .u64 0] := ⟨Fbc.lt, Fbc.cell, Fbc.free⟩
  clear Fbc
  have hz_w2 := hk.size
  have Bwl := Bw.lt
  have Bwf := Bw.free
  have Bwl1 : w.heap.size < w2.heap.size + 1 := by omega
  have Bwl2 : w.heap.size < w2.heap.size + 1 + 1 := by omega
  have Bwl3 : w.heap.size < w2.heap.size + 1 + 1 + 1 := by omega
  have Bw0 := Bw.cell 0 _ rfl
  have Bw1 := Bw.cell 1 _ rfl
  have Bw2 := Bw.cell 2 _ rfl
  have Bw3 := Bw.cell 3 _ rfl
  have Bal := Ba.lt
  have Baf := Ba.free
  have Bal1 : w1.heap.size < w2.heap.size + 1 := by omega
  have Bal2 : w1.heap.size < w2.heap.size + 1 + 1 := by omega
  have Bal3 : w1.heap.size < w2.heap.size + 1 + 1 + 1 := by omega
  have Ba0 := Ba.cell 0 _ rfl
  have Ba1 := Ba.cell 1 _ rfl
  have Bbcl := Bbc.lt
  have Bbcf := Bbc.free
  have Bbcl1 : bc < w2.heap.size + 1 := by omega
  have Bbcl2 : bc < w2.heap.size + 1 + 1 := by omega
  have Bbcl3 : bc < w2.heap.size + 1 + 1 + 1 := by omega
  have Bbc0 := Bbc.cell 0 _ rfl
  have Bbc1 := Bbc.cell 1 _ rfl
  go_wp2_with fail
  (with_reducible refine (Cut_in hW k0 k1 (by omega) (by omega) _ _).mono ?_)
  rintro e w3 ⟨rfl, hb⟩
  have Bw' : Box w3 (w.heap.size) #[.int .u64 (limb 0 W), .int .u64 (limb 1 W), .int .u64 (limb 2 W), .int .u64 (limb 3 W)] := Box.call hb (by repeat (first | with_reducible assumption | with_reducible apply Box.set10 | with_reducible apply Box.set20 | with_reducible apply Box.set21 | with_reducible apply Box.set40 | with_reducible apply Box.set41 | with_reducible apply Box.set42 | with_reducible apply Box.set43 | with_reducible apply Box.set50 | with_reducible apply Box.set51 | with_reducible apply Box.set52 | with_reducible apply Box.set53 | with_reducible apply Box.set54 | with_reducible apply Box.drew | (with_reducible apply Box.newAt; (try simp only [World.size_alloc, World.size_setCell, World.size_drew]); done) | with_reducible apply Box.alloc | (with_reducible apply Box.other; case hne => ((try simp only [World.size_alloc, World.size_setCell, World.size_drew]); omega))))
  have Ba' : Box w3 (w1.heap.size) #[.int .u64 0, .int .u64 0] := Box.call hb (by repeat (first | with_reducible assumption | with_reducible apply Box.set10 | with_reducible apply Box.set20 | with_reducible apply Box.set21 | with_reducible apply Box.set40 | with_reducible apply Box.set41 | with_reducible apply Box.set42 | with_reducible apply Box.set43 | with_reducible apply Box.set50 | with_reducible apply Box.set51 | with_reducible apply Box.set52 | with_reducible apply Box.set53 | with_reducible apply Box.set54 | with_reducible apply Box.drew | (with_reducible apply Box.newAt; (try simp only [World.size_alloc, World.size_setCell, World.size_drew]); done) | with_reducible apply Box.alloc | (with_reducible apply Box.other; case hne => ((try simp only [World.size_alloc, World.size_setCell, World.size_drew]); omega))))
  have Bbc' : Box w3 (bc) #[.int .u64 0, .int .u64 0] := Box.call hb (by repeat (first | with_reducible assumption | with_reducible apply Box.set10 | with_reducible apply Box.set20 | with_reducible apply Box.set21 | with_reducible apply Box.set40 | with_reducible apply Box.set41 | with_reducible apply Box.set42 | with_reducible apply Box.set43 | with_reducible apply Box.set50 | with_reducible apply Box.set51 | with_reducible apply Box.set52 | with_reducible apply Box.set53 | with_reducible apply Box.set54 | with_reducible apply Box.drew | (with_reducible apply Box.newAt; (try simp only [World.size_alloc, World.size_setCell, World.size_drew]); done) | with_reducible apply Box.alloc | (with_reducible apply Box.other; case hne => ((try simp only [World.size_alloc, World.size_setCell, World.size_drew]); omega))))
  have hk' : Kept w.heap.size w w3 := Kept.step (by repeat (first | with_reducible exact hk | with_reducible exact Kept.refl _ | with_reducible refine Kept.alloc ?_ _ | with_reducible refine Kept.drew ?_ | with_reducible refine Kept.setCell ?_ (by simp only [World.size_alloc, World.size_setCell, World.size_drew]; omega) _)) hb
  clear hk hb
  clear Bw Bwl1 Bwl2 Bwl3 Bwf Bw0 Bw1 Bw2 Bw3
  clear Ba Bal1 Bal2 Bal3 Baf Ba0 Ba1
  clear Bbc Bbcl1 Bbcl2 Bbcl3 Bbcf Bbc0 Bbc1
  have Bw := Bw'
  clear Bw'
  have Ba := Ba'
  clear Ba'
  have Bbc := Bbc'
  clear Bbc'
  have hk := hk'
  clear hk'
  have hz_w3 := hk.size
  have Bwl := Bw.lt
  have Bwf := Bw.free
  have Bwl1 : w.heap.size < w3.heap.size + 1 := by omega
  have Bwl2 : w.heap.size < w3.heap.size + 1 + 1 := by omega
  have Bwl3 : w.heap.size < w3.heap.size + 1 + 1 + 1 := by omega
  have Bw0 := Bw.cell 0 _ rfl
  have Bw1 := Bw.cell 1 _ rfl
  have Bw2 := Bw.cell 2 _ rfl
  have Bw3 := Bw.cell 3 _ rfl
  have Bal := Ba.lt
  have Baf := Ba.free
  have Bal1 : w1.heap.size < w3.heap.size + 1 := by omega
  have Bal2 : w1.heap.size < w3.heap.size + 1 + 1 := by omega
  have Bal3 : w1.heap.size < w3.heap.size + 1 + 1 + 1 := by omega
  have Ba0 := Ba.cell 0 _ rfl
  have Ba1 := Ba.cell 1 _ rfl
  have Bbcl := Bbc.lt
  have Bbcf := Bbc.free
  have Bbcl1 : bc < w3.heap.size + 1 := by omega
  have Bbcl2 : bc < w3.heap.size + 1 + 1 := by omega
  have Bbcl3 : bc < w3.heap.size + 1 + 1 + 1 := by omega
  have Bbc0 := Bbc.cell 0 _ rfl
  have Bbc1 := Bbc.cell 1 _ rfl
  go_wp2_with fail
  (with_reducible refine (Cut_in hW k0 k1 (by omega) (by omega) _ _).mono ?_)
  rintro e w4 ⟨rfl, hb⟩
  have Bw' : Box w4 (w.heap.size) #[.int .u64 (limb 0 W), .int .u64 (limb 1 W), .int .u64 (limb 2 W), .int .u64 (limb 3 W)] := Box.call hb (by repeat (first | with_reducible assumption | with_reducible apply Box.set10 | with_reducible apply Box.set20 | with_reducible apply Box.set21 | with_reducible apply Box.set40 | with_reducible apply Box.set41 | with_reducible apply Box.set42 | with_reducible apply Box.set43 | with_reducible apply Box.set50 | with_reducible apply Box.set51 | with_reducible apply Box.set52 | with_reducible apply Box.set53 | with_reducible apply Box.set54 | with_reducible apply Box.drew | (with_reducible apply Box.newAt; (try simp only [World.size_alloc, World.size_setCell, World.size_drew]); done) | with_reducible apply Box.alloc | (with_reducible apply Box.other; case hne => ((try simp only [World.size_alloc, World.size_setCell, World.size_drew]); omega))))
  have Ba' : Box w4 (w1.heap.size) #[.int .u64 0, .int .u64 0] := Box.call hb (by repeat (first | with_reducible assumption | with_reducible apply Box.set10 | with_reducible apply Box.set20 | with_reducible apply Box.set21 | with_reducible apply Box.set40 | with_reducible apply Box.set41 | with_reducible apply Box.set42 | with_reducible apply Box.set43 | with_reducible apply Box.set50 | with_reducible apply Box.set51 | with_reducible apply Box.set52 | with_reducible apply Box.set53 | with_reducible apply Box.set54 | with_reducible apply Box.drew | (with_reducible apply Box.newAt; (try simp only [World.size_alloc, World.size_setCell, World.size_drew]); done) | with_reducible apply Box.alloc | (with_reducible apply Box.other; case hne => ((try simp only [World.size_alloc, World.size_setCell, World.size_drew]); omega))))
  have Bbc' : Box w4 (bc) #[.int .u64 0, .int .u64 0] := Box.call hb (by repeat (first | with_reducible assumption | with_reducible apply Box.set10 | with_reducible apply Box.set20 | with_reducible apply Box.set21 | with_reducible apply Box.set40 | with_reducible apply Box.set41 | with_reducible apply Box.set42 | with_reducible apply Box.set43 | with_reducible apply Box.set50 | with_reducible apply Box.set51 | with_reducible apply Box.set52 | with_reducible apply Box.set53 | with_reducible apply Box.set54 | with_reducible apply Box.drew | (with_reducible apply Box.newAt; (try simp only [World.size_alloc, World.size_setCell, World.size_drew]); done) | with_reducible apply Box.alloc | (with_reducible apply Box.other; case hne => ((try simp only [World.size_alloc, World.size_setCell, World.size_drew]); omega))))
  have Bu' : Box w4 (w3.heap.size) #[.int .u64 (limb 1 (add128 (cutN W (n % 128) 3 false) (val2 1 0))), .int .u64 (limb 0 (add128 (cutN W (n % 128) 3 false) (val2 1 0)))] := Box.call hb (by repeat (first | with_reducible assumption | with_reducible apply Box.set10 | with_reducible apply Box.set20 | with_reducible apply Box.set21 | with_reducible apply Box.set40 | with_reducible apply Box.set41 | with_reducible apply Box.set42 | with_reducible apply Box.set43 | with_reducible apply Box.set50 | with_reducible apply Box.set51 | with_reducible apply Box.set52 | with_reducible apply Box.set53 | with_reducible apply Box.set54 | with_reducible apply Box.drew | (with_reducible apply Box.newAt; (try simp only [World.size_alloc, World.size_setCell, World.size_drew]); done) | with_reducible apply Box.alloc | (with_reducible apply Box.other; case hne => ((try simp only [World.size_alloc, World.size_setCell, World.size_drew]); omega))))
  have hk' : Kept w.heap.size w w4 := Kept.step (by repeat (first | with_reducible exact hk | with_reducible exact Kept.refl _ | with_reducible refine Kept.alloc ?_ _ | with_reducible refine Kept.drew ?_ | with_reducible refine Kept.setCell ?_ (by simp only [World.size_alloc, World.size_setCell, World.size_drew]; omega) _)) hb
  clear hk hb
  clear Bw Bwl1 Bwl2 Bwl3 Bwf Bw0 Bw1 Bw2 Bw3
  clear Ba Bal1 Bal2 Bal3 Baf Ba0 Ba1
  clear Bbc Bbcl1 Bbcl2 Bbcl3 Bbcf Bbc0 Bbc1
  have Bw := Bw'
  clear Bw'
  have Ba := Ba'
  clear Ba'
  have Bbc := Bbc'
  clear Bbc'
  have Bu := Bu'
  clear Bu'
  have hk := hk'
  clear hk'
  have hz_w4 := hk.size
  have Bwl := Bw.lt
  have Bwf := Bw.free
  have Bwl1 : w.heap.size < w4.heap.size + 1 := by omega
  have Bwl2 : w.heap.size < w4.heap.size + 1 + 1 := by omega
  have Bwl3 : w.heap.size < w4.heap.size + 1 + 1 + 1 := by omega
  have Bw0 := Bw.cell 0 _ rfl
  have Bw1 := Bw.cell 1 _ rfl
  have Bw2 := Bw.cell 2 _ rfl
  have Bw3 := Bw.cell 3 _ rfl
  have Bal := Ba.lt
  have Baf := Ba.free
  have Bal1 : w1.heap.size < w4.heap.size + 1 := by omega
  have Bal2 : w1.heap.size < w4.heap.size + 1 + 1 := by omega
  have Bal3 : w1.heap.size < w4.heap.size + 1 + 1 + 1 := by omega
  have Ba0 := Ba.cell 0 _ rfl
  have Ba1 := Ba.cell 1 _ rfl
  have Bbcl := Bbc.lt
  have Bbcf := Bbc.free
  have Bbcl1 : bc < w4.heap.size + 1 := by omega
  have Bbcl2 : bc < w4.heap.size + 1 + 1 := by omega
  have Bbcl3 : bc < w4.heap.size + 1 + 1 + 1 := by omega
  have Bbc0 := Bbc.cell 0 _ rfl
  have Bbc1 := Bbc.cell 1 _ rfl
  have Bul := Bu.lt
  have Buf := Bu.free
  have Bul1 : w3.heap.size < w4.heap.size + 1 := by omega
  have Bul2 : w3.heap.size < w4.heap.size + 1 + 1 := by omega
  have Bul3 : w3.heap.size < w4.heap.size + 1 + 1 + 1 := by omega
  have Bu0 := Bu.cell 0 _ rfl
  have Bu1 := Bu.cell 1 _ rfl
  go_wp2_with fail
  (with_reducible refine (Add_at (IsBits.of (cut_w hW k0 k1 _ _)) (IsBits.val u64_zero (isU64_mk (by decide +kernel))) _).mono ?_)
  rintro e w5 ⟨rfl, hb⟩
  have Bw' : Box w5 (w.heap.size) #[.int .u64 (limb 0 W), .int .u64 (limb 1 W), .int .u64 (limb 2 W), .int .u64 (limb 3 W)] := Box.call hb (by repeat (first | with_reducible assumption | with_reducible apply Box.set10 | with_reducible apply Box.set20 | with_reducible apply Box.set21 | with_reducible apply Box.set40 | with_reducible apply Box.set41 | with_reducible apply Box.set42 | with_reducible apply Box.set43 | with_reducible apply Box.set50 | with_reducible apply Box.set51 | with_reducible apply Box.set52 | with_reducible apply Box.set53 | with_reducible apply Box.set54 | with_reducible apply Box.drew | (with_reducible apply Box.newAt; (try simp only [World.size_alloc, World.size_setCell, World.size_drew]); done) | with_reducible apply Box.alloc | (with_reducible apply Box.other; case hne => ((try simp only [World.size_alloc, World.size_setCell, World.size_drew]); omega))))
  have Ba' : Box w5 (w1.heap.size) #[.int .u64 0, .int .u64 0] := Box.call hb (by repeat (first | with_reducible assumption | with_reducible apply Box.set10 | with_reducible apply Box.set20 | with_reducible apply Box.set21 | with_reducible apply Box.set40 | with_reducible apply Box.set41 | with_reducible apply Box.set42 | with_reducible apply Box.set43 | with_reducible apply Box.set50 | with_reducible apply Box.set51 | with_reducible apply Box.set52 | with_reducible apply Box.set53 | with_reducible apply Box.set54 | with_reducible apply Box.drew | (with_reducible apply Box.newAt; (try simp only [World.size_alloc, World.size_setCell, World.size_drew]); done) | with_reducible apply Box.alloc | (with_reducible apply Box.other; case hne => ((try simp only [World.size_alloc, World.size_setCell, World.size_drew]); omega))))
  have Bbc' : Box w5 (bc) #[.int .u64 0, .int .u64 0] := Box.call hb (by repeat (first | with_reducible assumption | with_reducible apply Box.set10 | with_reducible apply Box.set20 | with_reducible apply Box.set21 | with_reducible apply Box.set40 | with_reducible apply Box.set41 | with_reducible apply Box.set42 | with_reducible apply Box.set43 | with_reducible apply Box.set50 | with_reducible apply Box.set51 | with_reducible apply Box.set52 | with_reducible apply Box.set53 | with_reducible apply Box.set54 | with_reducible apply Box.drew | (with_reducible apply Box.newAt; (try simp only [World.size_alloc, World.size_setCell, World.size_drew]); done) | with_reducible apply Box.alloc | (with_reducible apply Box.other; case hne => ((try simp only [World.size_alloc, World.size_setCell, World.size_drew]); omega))))
  have Bu' : Box w5 (w3.heap.size) #[.int .u64 (limb 1 (add128 (cutN W (n % 128) 3 false) (val2 1 0))), .int .u64 (limb 0 (add128 (cutN W (n % 128) 3 false) (val2 1 0)))] := Box.call hb (by repeat (first | with_reducible assumption | with_reducible apply Box.set10 | with_reducible apply Box.set20 | with_reducible apply Box.set21 | with_reducible apply Box.set40 | with_reducible apply Box.set41 | with_reducible apply Box.set42 | with_reducible apply Box.set43 | with_reducible apply Box.set50 | with_reducible apply Box.set51 | with_reducible apply Box.set52 | with_reducible apply Box.set53 | with_reducible apply Box.set54 | with_reducible apply Box.drew | (with_reducible apply Box.newAt; (try simp only [World.size_alloc, World.size_setCell, World.size_drew]); done) | with_reducible apply Box.alloc | (with_reducible apply Box.other; case hne => ((try simp only [World.size_alloc, World.size_setCell, World.size_drew]); omega))))
  have Bd' : Box w5 (w4.heap.size) #[.int .u64 (limb 1 (cutN W (n % 128) 3 false)), .int .u64 (limb 0 (cutN W (n % 128) 3 false))] := Box.call hb (by repeat (first | with_reducible assumption | with_reducible apply Box.set10 | with_reducible apply Box.set20 | with_reducible apply Box.set21 | with_reducible apply Box.set40 | with_reducible apply Box.set41 | with_reducible apply Box.set42 | with_reducible apply Box.set43 | with_reducible apply Box.set50 | with_reducible apply Box.set51 | with_reducible apply Box.set52 | with_reducible apply Box.set53 | with_reducible apply Box.set54 | with_reducible apply Box.drew | (with_reducible apply Box.newAt; (try simp only [World.size_alloc, World.size_setCell, World.size_drew]); done) | with_reducible apply Box.alloc | (with_reducible apply Box.other; case hne => ((try simp only [World.size_alloc, World.size_setCell, World.size_drew]); omega))))
  have hk' : Kept w.heap.size w w5 := Kept.step (by repeat (first | with_reducible exact hk | with_reducible exact Kept.refl _ | with_reducible refine Kept.alloc ?_ _ | with_reducible refine Kept.drew ?_ | with_reducible refine Kept.setCell ?_ (by simp only [World.size_alloc, World.size_setCell, World.size_drew]; omega) _)) hb
  clear hk hb
  clear Bw Bwl1 Bwl2 Bwl3 Bwf Bw0 Bw1 Bw2 Bw3
  clear Ba Bal1 Bal2 Bal3 Baf Ba0 Ba1
  clear Bbc Bbcl1 Bbcl2 Bbcl3 Bbcf Bbc0 Bbc1
  clear Bu Bul1 Bul2 Bul3 Buf Bu0 Bu1
  have Bw := Bw'
  clear Bw'
  have Ba := Ba'
  clear Ba'
  have Bbc := Bbc'
  clear Bbc'
  have Bu := Bu'
  clear Bu'
  have Bd := Bd'
  clear Bd'
  have hk := hk'
  clear hk'
  have hz_w5 := hk.size
  have Bwl := Bw.lt
  have Bwf := Bw.free
  have Bwl1 : w.heap.size < w5.heap.size + 1 := by omega
  have Bwl2 : w.heap.size < w5.heap.size + 1 + 1 := by omega
  have Bwl3 : w.heap.size < w5.heap.size + 1 + 1 + 1 := by omega
  have Bw0 := Bw.cell 0 _ rfl
  have Bw1 := Bw.cell 1 _ rfl
  have Bw2 := Bw.cell 2 _ rfl
  have Bw3 := Bw.cell 3 _ rfl
  have Bal := Ba.lt
  have Baf := Ba.free
  have Bal1 : w1.heap.size < w5.heap.size + 1 := by omega
  have Bal2 : w1.heap.size < w5.heap.size + 1 + 1 := by omega
  have Bal3 : w1.heap.size < w5.heap.size + 1 + 1 + 1 := by omega
  have Ba0 := Ba.cell 0 _ rfl
  have Ba1 := Ba.cell 1 _ rfl
  have Bbcl := Bbc.lt
  have Bbcf := Bbc.free
  have Bbcl1 : bc < w5.heap.size + 1 := by omega
  have Bbcl2 : bc < w5.heap.size + 1 + 1 := by omega
  have Bbcl3 : bc < w5.heap.size + 1 + 1 + 1 := by omega
  have Bbc0 := Bbc.cell 0 _ rfl
  have Bbc1 := Bbc.cell 1 _ rfl
  have Bul := Bu.lt
  have Buf := Bu.free
  have Bul1 : w3.heap.size < w5.heap.size + 1 := by omega
  have Bul2 : w3.heap.size < w5.heap.size + 1 + 1 := by omega
  have Bul3 : w3.heap.size < w5.heap.size + 1 + 1 + 1 := by omega
  have Bu0 := Bu.cell 0 _ rfl
  have Bu1 := Bu.cell 1 _ rfl
  have Bdl := Bd.lt
  have Bdf := Bd.free
  have Bdl1 : w4.heap.size < w5.heap.size + 1 := by omega
  have Bdl2 : w4.heap.size < w5.heap.size + 1 + 1 := by omega
  have Bdl3 : w4.heap.size < w5.heap.size + 1 + 1 + 1 := by omega
  have Bd0 := Bd.cell 0 _ rfl
  have Bd1 := Bd.cell 1 _ rfl
  go_wp2_with fail
  (with_reducible refine (goes15_any _).mono ?_)
  rintro e w6 ⟨rfl, hb⟩
  have Bw' : Box w6 (w.heap.size) #[.int .u64 (limb 0 W), .int .u64 (limb 1 W), .int .u64 (limb 2 W), .int .u64 (limb 3 W)] := Box.call hb (by repeat (first | with_reducible assumption | with_reducible apply Box.set10 | with_reducible apply Box.set20 | with_reducible apply Box.set21 | with_reducible apply Box.set40 | with_reducible apply Box.set41 | with_reducible apply Box.set42 | with_reducible apply Box.set43 | with_reducible apply Box.set50 | with_reducible apply Box.set51 | with_reducible apply Box.set52 | with_reducible apply Box.set53 | with_reducible apply Box.set54 | with_reducible apply Box.drew | (with_reducible apply Box.newAt; (try simp only [World.size_alloc, World.size_setCell, World.size_drew]); done) | with_reducible apply Box.alloc | (with_reducible apply Box.other; case hne => ((try simp only [World.size_alloc, World.size_setCell, World.size_drew]); omega))))
  have Ba' : Box w6 (w1.heap.size) #[.int .u64 0, .int .u64 0] := Box.call hb (by repeat (first | with_reducible assumption | with_reducible apply Box.set10 | with_reducible apply Box.set20 | with_reducible apply Box.set21 | with_reducible apply Box.set40 | with_reducible apply Box.set41 | with_reducible apply Box.set42 | with_reducible apply Box.set43 | with_reducible apply Box.set50 | with_reducible apply Box.set51 | with_reducible apply Box.set52 | with_reducible apply Box.set53 | with_reducible apply Box.set54 | with_reducible apply Box.drew | (with_reducible apply Box.newAt; (try simp only [World.size_alloc, World.size_setCell, World.size_drew]); done) | with_reducible apply Box.alloc | (with_reducible apply Box.other; case hne => ((try simp only [World.size_alloc, World.size_setCell, World.size_drew]); omega))))
  have Bbc' : Box w6 (bc) #[.int .u64 0, .int .u64 0] := Box.call hb (by repeat (first | with_reducible assumption | with_reducible apply Box.set10 | with_reducible apply Box.set20 | with_reducible apply Box.set21 | with_reducible apply Box.set40 | with_reducible apply Box.set41 | with_reducible apply Box.set42 | with_reducible apply Box.set43 | with_reducible apply Box.set50 | with_reducible apply Box.set51 | with_reducible apply Box.set52 | with_reducible apply Box.set53 | with_reducible apply Box.set54 | with_reducible apply Box.drew | (with_reducible apply Box.newAt; (try simp only [World.size_alloc, World.size_setCell, World.size_drew]); done) | with_reducible apply Box.alloc | (with_reducible apply Box.other; case hne => ((try simp only [World.size_alloc, World.size_setCell, World.size_drew]); omega))))
  have Bu' : Box w6 (w3.heap.size) #[.int .u64 (limb 1 (add128 (cutN W (n % 128) 3 false) (val2 1 0))), .int .u64 (limb 0 (add128 (cutN W (n % 128) 3 false) (val2 1 0)))] := Box.call hb (by repeat (first | with_reducible assumption | with_reducible apply Box.set10 | with_reducible apply Box.set20 | with_reducible apply Box.set21 | with_reducible apply Box.set40 | with_reducible apply Box.set41 | with_reducible apply Box.set42 | with_reducible apply Box.set43 | with_reducible apply Box.set50 | with_reducible apply Box.set51 | with_reducible apply Box.set52 | with_reducible apply Box.set53 | with_reducible apply Box.set54 | with_reducible apply Box.drew | (with_reducible apply Box.newAt; (try simp only [World.size_alloc, World.size_setCell, World.size_drew]); done) | with_reducible apply Box.alloc | (with_reducible apply Box.other; case hne => ((try simp only [World.size_alloc, World.size_setCell, World.size_drew]); omega))))
  have Bd' : Box w6 (w4.heap.size) #[.int .u64 (limb 1 (cutN W (n % 128) 3 false)), .int .u64 (limb 0 (cutN W (n % 128) 3 false))] := Box.call hb (by repeat (first | with_reducible assumption | with_reducible apply Box.set10 | with_reducible apply Box.set20 | with_reducible apply Box.set21 | with_reducible apply Box.set40 | with_reducible apply Box.set41 | with_reducible apply Box.set42 | with_reducible apply Box.set43 | with_reducible apply Box.set50 | with_reducible apply Box.set51 | with_reducible apply Box.set52 | with_reducible apply Box.set53 | with_reducible apply Box.set54 | with_reducible apply Box.drew | (with_reducible apply Box.newAt; (try simp only [World.size_alloc, World.size_setCell, World.size_drew]); done) | with_reducible apply Box.alloc | (with_reducible apply Box.other; case hne => ((try simp only [World.size_alloc, World.size_setCell, World.size_drew]); omega))))
  have Bn' : Box w6 (w5.heap.size) #[.int .u64 (limb 1 (add128 (cutN W (n % 128) 3 false) (val2 1 0))), .int .u64 (limb 0 (add128 (cutN W (n % 128) 3 false) (val2 1 0)))] := Box.call hb (by repeat (first | with_reducible assumption | with_reducible apply Box.set10 | with_reducible apply Box.set20 | with_reducible apply Box.set21 | with_reducible apply Box.set40 | with_reducible apply Box.set41 | with_reducible apply Box.set42 | with_reducible apply Box.set43 | with_reducible apply Box.set50 | with_reducible apply Box.set51 | with_reducible apply Box.set52 | with_reducible apply Box.set53 | with_reducible apply Box.set54 | with_reducible apply Box.drew | (with_reducible apply Box.newAt; (try simp only [World.size_alloc, World.size_setCell, World.size_drew]); done) | with_reducible apply Box.alloc | (with_reducible apply Box.other; case hne => ((try simp only [World.size_alloc, World.size_setCell, World.size_drew]); omega))))
  have hk' : Kept w.heap.size w w6 := Kept.step (by repeat (first | with_reducible exact hk | with_reducible exact Kept.refl _ | with_reducible refine Kept.alloc ?_ _ | with_reducible refine Kept.drew ?_ | with_reducible refine Kept.setCell ?_ (by simp only [World.size_alloc, World.size_setCell, World.size_drew]; omega) _)) hb
  clear hk hb
  clear Bw Bwl1 Bwl2 Bwl3 Bwf Bw0 Bw1 Bw2 Bw3
  clear Ba Bal1 Bal2 Bal3 Baf Ba0 Ba1
  clear Bbc Bbcl1 Bbcl2 Bbcl3 Bbcf Bbc0 Bbc1
  clear Bu Bul1 Bul2 Bul3 Buf Bu0 Bu1
  clear Bd Bdl1 Bdl2 Bdl3 Bdf Bd0 Bd1
  have Bw := Bw'
  clear Bw'
  have Ba := Ba'
  clear Ba'
  have Bbc := Bbc'
  clear Bbc'
  have Bu := Bu'
  clear Bu'
  have Bd := Bd'
  clear Bd'
  have Bn := Bn'
  clear Bn'
  have hk := hk'
  clear hk'
  have hz_w6 := hk.size
  have Bwl := Bw.lt
  have Bwf := Bw.free
  have Bwl1 : w.heap.size < w6.heap.size + 1 := by omega
  have Bwl2 : w.heap.size < w6.heap.size + 1 + 1 := by omega
  have Bwl3 : w.heap.size < w6.heap.size + 1 + 1 + 1 := by omega
  have Bw0 := Bw.cell 0 _ rfl
  have Bw1 := Bw.cell 1 _ rfl
  have Bw2 := Bw.cell 2 _ rfl
  have Bw3 := Bw.cell 3 _ rfl
  have Bal := Ba.lt
  have Baf := Ba.free
  have Bal1 : w1.heap.size < w6.heap.size + 1 := by omega
  have Bal2 : w1.heap.size < w6.heap.size + 1 + 1 := by omega
  have Bal3 : w1.heap.size < w6.heap.size + 1 + 1 + 1 := by omega
  have Ba0 := Ba.cell 0 _ rfl
  have Ba1 := Ba.cell 1 _ rfl
  have Bbcl := Bbc.lt
  have Bbcf := Bbc.free
  have Bbcl1 : bc < w6.heap.size + 1 := by omega
  have Bbcl2 : bc < w6.heap.size + 1 + 1 := by omega
  have Bbcl3 : bc < w6.heap.size + 1 + 1 + 1 := by omega
  have Bbc0 := Bbc.cell 0 _ rfl
  have Bbc1 := Bbc.cell 1 _ rfl
  have Bul := Bu.lt
  have Buf := Bu.free
  have Bul1 : w3.heap.size < w6.heap.size + 1 := by omega
  have Bul2 : w3.heap.size < w6.heap.size + 1 + 1 := by omega
  have Bul3 : w3.heap.size < w6.heap.size + 1 + 1 + 1 := by omega
  have Bu0 := Bu.cell 0 _ rfl
  have Bu1 := Bu.cell 1 _ rfl
  have Bdl := Bd.lt
  have Bdf := Bd.free
  have Bdl1 : w4.heap.size < w6.heap.size + 1 := by omega
  have Bdl2 : w4.heap.size < w6.heap.size + 1 + 1 := by omega
  have Bdl3 : w4.heap.size < w6.heap.size + 1 + 1 + 1 := by omega
  have Bd0 := Bd.cell 0 _ rfl
  have Bd1 := Bd.cell 1 _ rfl
  have Bnl := Bn.lt
  have Bnf := Bn.free
  have Bnl1 : w5.heap.size < w6.heap.size + 1 := by omega
  have Bnl2 : w5.heap.size < w6.heap.size + 1 + 1 := by omega
  have Bnl3 : w5.heap.size < w6.heap.size + 1 + 1 + 1 := by omega
  have Bn0 := Bn.cell 0 _ rfl
  have Bn1 := Bn.cell 1 _ rfl
  go_wp2
  go_ret
  exact ⟨rfl, (by refine Kept.below ?_; repeat (first | with_reducible exact hk | with_reducible exact Kept.refl _ | with_reducible refine Kept.alloc ?_ _ | with_reducible refine Kept.drew ?_ | with_reducible refine Kept.setCell ?_ (by simp only [World.size_alloc, World.size_setCell, World.size_drew]; omega) _))⟩

set_option maxRecDepth 100000 in
set_option maxHeartbeats 8000000 in
theorem RoundMirror_on {W : Nat} (hW : W256 W) {n m : Int} (n0 : 0 ≤ n) (n1 : n ≤ 255) (m0 : 0 ≤ m) (m1 : m ≤ 255) (hm : 4 < m) (h : moreB W (n % 128) = false) (w : World) :
    Calls Try.prog 6 #[wideV W, .int .u8 n, .int .u8 m] w fun e w' => e = .returned (.bool true) ∧ Below w.heap.size w w' := by
  have hk := Kept.refl w
  have k0 : 0 ≤ n % 128 := by omega
  have k1 : n % 128 ≤ 127 := by omega
  have f1 := cut_same h
  have f2 := mirror_far hm
  go_enter Try.func6, Try.ntmps6
  go_wp2_with fail
  (with_reducible refine (Cut_out _ _ _ _ (by omega) _ _).mono ?_)
  rintro e w1 ⟨rfl, hb⟩
  have Bw' : Box w1 (w.heap.size) #[.int .u64 (limb 0 W), .int .u64 (limb 1 W), .int .u64 (limb 2 W), .int .u64 (limb 3 W)] := Box.call hb (by repeat (first | with_reducible assumption | with_reducible apply Box.set10 | with_reducible apply Box.set20 | with_reducible apply Box.set21 | with_reducible apply Box.set40 | with_reducible apply Box.set41 | with_reducible apply Box.set42 | with_reducible apply Box.set43 | with_reducible apply Box.set50 | with_reducible apply Box.set51 | with_reducible apply Box.set52 | with_reducible apply Box.set53 | with_reducible apply Box.set54 | with_reducible apply Box.drew | (with_reducible apply Box.newAt; (try simp only [World.size_alloc, World.size_setCell, World.size_drew]); done) | with_reducible apply Box.alloc | (with_reducible apply Box.other; case hne => ((try simp only [World.size_alloc, World.size_setCell, World.size_drew]); omega))))
  have hk' : Kept w.heap.size w w1 := Kept.step (by repeat (first | with_reducible exact hk | with_reducible exact Kept.refl _ | with_reducible refine Kept.alloc ?_ _ | with_reducible refine Kept.drew ?_ | with_reducible refine Kept.setCell ?_ (by simp only [World.size_alloc, World.size_setCell, World.size_drew]; omega) _)) hb
  clear hk hb
  have Bw := Bw'
  clear Bw'
  have hk := hk'
  clear hk'
  have hz_w1 := hk.size
  have Bwl := Bw.lt
  have Bwf := Bw.free
  have Bwl1 : w.heap.size < w1.heap.size + 1 := by omega
  have Bwl2 : w.heap.size < w1.heap.size + 1 + 1 := by omega
  have Bwl3 : w.heap.size < w1.heap.size + 1 + 1 + 1 := by omega
  have Bw0 := Bw.cell 0 _ rfl
  have Bw1 := Bw.cell 1 _ rfl
  have Bw2 := Bw.cell 2 _ rfl
  have Bw3 := Bw.cell 3 _ rfl
  go_wp2
  refine wp_region_univ 11 (fun W' => Kept w.heap.size w W' ∧ Box W' (w.heap.size) #[.int .u64 (limb 0 W), .int .u64 (limb 1 W), .int .u64 (limb 2 W), .int .u64 (limb 3 W)] ∧ Box W' (w1.heap.size) #[.int .u64 0, .int .u64 0]) (w1.heap.size + 1) (fun _ => #[.int .u64 0, .int .u64 0]) (by kernel_rfl) (by kernel_rfl) (fun W W' h hb => ⟨h.1.step hb, Box.call hb (h.2.1), Box.call hb (h.2.2)⟩) (fun _ h => (h.2.2).lt) (⟨(by repeat (first | with_reducible exact hk | with_reducible exact Kept.refl _ | with_reducible refine Kept.alloc ?_ _ | with_reducible refine Kept.drew ?_ | with_reducible refine Kept.setCell ?_ (by simp only [World.size_alloc, World.size_setCell, World.size_drew]; omega) _)), (by repeat (first | with_reducible assumption | with_reducible apply Box.set10 | with_reducible apply Box.set20 | with_reducible apply Box.set21 | with_reducible apply Box.set40 | with_reducible apply Box.set41 | with_reducible apply Box.set42 | with_reducible apply Box.set43 | with_reducible apply Box.set50 | with_reducible apply Box.set51 | with_reducible apply Box.set52 | with_reducible apply Box.set53 | with_reducible apply Box.set54 | with_reducible apply Box.drew | (with_reducible apply Box.newAt; (try simp only [World.size_alloc, World.size_setCell, World.size_drew]); done) | with_reducible apply Box.alloc | (with_reducible apply Box.other; case hne => ((try simp only [World.size_alloc, World.size_setCell, World.size_drew]); omega)))), (by repeat (first | with_reducible assumption | with_reducible apply Box.set10 | with_reducible apply Box.set20 | with_reducible apply Box.set21 | with_reducible apply Box.set40 | with_reducible apply Box.set41 | with_reducible apply Box.set42 | with_reducible apply Box.set43 | with_reducible apply Box.set50 | with_reducible apply Box.set51 | with_reducible apply Box.set52 | with_reducible apply Box.set53 | with_reducible apply Box.set54 | with_reducible apply Box.drew | (with_reducible apply Box.newAt; (try simp only [World.size_alloc, World.size_setCell, World.size_drew]); done) | with_reducible apply Box.alloc | (with_reducible apply Box.other; case hne => ((try simp only [World.size_alloc, World.size_setCell, World.size_drew]); omega))))⟩) ?_
  clear hk
  clear Bw Bwl1 Bwl2 Bwl3 Bwf Bw0 Bw1 Bw2 Bw3
  simp only [List.take_succ_cons, List.take_zero, List.drop_succ_cons, List.drop_zero]
  refine hv_val ?_ (by rfl) (by rfl) (by rfl) (by rfl) ?_ ?_
  rotate_left
  · intro w hS; have Q0 := (hS.2.1).cell; have q0_0 := Q0 0 _ rfl; have q0_1 := Q0 1 _ rfl; have q0_2 := Q0 2 _ rfl; have q0_3 := Q0 3 _ rfl; clear Q0; clear hS; go_simp; first | done | with_reducible rfl
  simp only [Act.put, List.setIfInBounds_toArray, List.set_cons_zero, List.set_cons_succ]
  refine hv_copy _ _ (by rfl) (by rfl) (by rfl) (by rfl) (by first | rfl | (go_simp; done) | (go_simp; rfl)) ?_
  simp only [Act.put, List.setIfInBounds_toArray, List.set_cons_zero, List.set_cons_succ]
  refine hv_copy _ _ (by rfl) (by rfl) (by rfl) (by rfl) (by first | rfl | (go_simp; done) | (go_simp; rfl)) ?_
  simp only [Act.put, List.setIfInBounds_toArray, List.set_cons_zero, List.set_cons_succ]
  refine hv_call ?_ ?_ ?_ (by rfl) (by rfl) (by rfl) (by rfl) ?_ ?_ ?_
  rotate_left 3
  · intro w hS; go_simp; first | done | with_reducible rfl | (constructor <;> with_reducible rfl)
  · intro w hS; refine (Mirror_any _ _).mono ?_; rintro e w' ⟨rfl, hb⟩; constructor; · with_reducible rfl
    · subst hb; exact Below.refl _ _
  simp only [Act.put, List.setIfInBounds_toArray, List.set_cons_zero, List.set_cons_succ]
  refine hv_call ?_ ?_ ?_ (by rfl) (by rfl) (by rfl) (by rfl) ?_ ?_ ?_
  rotate_left 3
  · intro w hS; go_simp; first | done | with_reducible rfl | (constructor <;> with_reducible rfl)
  · intro w hS; refine (Cut_out _ _ _ _ (by omega) _ _).mono ?_; rintro e w' ⟨rfl, hb⟩; constructor; · with_reducible rfl
    · exact hb
  simp only [Act.put, List.setIfInBounds_toArray, List.set_cons_zero, List.set_cons_succ]
  refine hv_copy _ _ (by rfl) (by rfl) (by rfl) (by rfl) (by first | rfl | (go_simp; done) | (go_simp; rfl)) ?_
  simp only [Act.put, List.setIfInBounds_toArray, List.set_cons_zero, List.set_cons_succ]
  refine hv_val ?_ (by rfl) (by rfl) (by rfl) (by rfl) ?_ ?_
  rotate_left
  · intro w hS; clear hS; go_simp; first | done | with_reducible rfl
  simp only [Act.put, List.setIfInBounds_toArray, List.set_cons_zero, List.set_cons_succ]
  refine hv_val ?_ (by rfl) (by rfl) (by rfl) (by rfl) ?_ ?_
  rotate_left
  · intro w hS; clear hS; go_simp; first | done | with_reducible rfl
  simp only [Act.put, List.setIfInBounds_toArray, List.set_cons_zero, List.set_cons_succ]
  refine hv_alloc (by rfl) ⟨by rfl, ?_⟩ ?_
  · intro w; simp only [allocTy]; go_simp
  intro bc hbc
  simp only [Act.put, List.setIfInBounds_toArray, List.set_cons_zero, List.set_cons_succ]
  refine hv_store (fun W' => (True ∧ Box W' bc #[.int .u64 0, .int .u64 0])) (by rfl) (by rfl) (by rfl) (fun _ _ h hb => ⟨trivial, Box.call hb (h.2)⟩) ?_ ?_
  · intro w hS hE
    obtain ⟨_, Fbc⟩ := hE
    have Bbc : Box w bc _ := ⟨Fbc.lt, Fbc.cell, Fbc.free⟩
    have Q := Bbc.cell
    have q0 := Q 0 _ rfl
    have q1 := Q 1 _ rfl
    have Qf := Bbc.free
    refine ⟨((w.setCell ⟨bc, 0, none⟩ (.int .u64 0)).setCell ⟨bc, 1, none⟩ (.int .u64 0)), (by clear hS; go_simp; first | done | with_reducible rfl), ?_, ?_⟩
    · have hB := hbc
      have hz := hS.1.size
      have hz0 := (hS.2.1).lt
      have hz1 := (hS.2.2).lt
      exact ⟨((hS.1).setCell (p := ⟨bc, 0, none⟩) (by simp only []; omega) _).setCell (p := ⟨bc, 1, none⟩) (by simp only []; omega) _, ((hS.2.1).other (by omega)).other (by omega), ((hS.2.2).other (by omega)).other (by omega)⟩
    · exact ⟨trivial, (by with_reducible apply Box.set21; with_reducible apply Box.set20; exact Bbc)⟩
  simp only [Act.put, List.setIfInBounds_toArray, List.set_cons_zero, List.set_cons_succ]
  refine hv_copy _ _ (by rfl) (by rfl) (by rfl) (by rfl) (by first | rfl | (go_simp; done) | (go_simp; rfl)) ?_
  simp only [Act.put, List.setIfInBounds_toArray, List.set_cons_zero, List.set_cons_succ]
  intro w2 hS hE
  change wpList _ _ _ _ _ _
  obtain ⟨hk, Bw, Ba⟩ := hS
  obtain ⟨_, Fbc⟩ := hE
  have Bbc : Box w2 (bc) #[.int .u64 0, .int .u64 0] := ⟨Fbc.lt, Fbc.cell, Fbc.free⟩
  clear Fbc
  have hz_w2 := hk.size
  have Bwl := Bw.lt
  have Bwf := Bw.free
  have Bwl1 : w.heap.size < w2.heap.size + 1 := by omega
  have Bwl2 : w.heap.size < w2.heap.size + 1 + 1 := by omega
  have Bwl3 : w.heap.size < w2.heap.size + 1 + 1 + 1 := by omega
  have Bw0 := Bw.cell 0 _ rfl
  have Bw1 := Bw.cell 1 _ rfl
  have Bw2 := Bw.cell 2 _ rfl
  have Bw3 := Bw.cell 3 _ rfl
  have Bal := Ba.lt
  have Baf := Ba.free
  have Bal1 : w1.heap.size < w2.heap.size + 1 := by omega
  have Bal2 : w1.heap.size < w2.heap.size + 1 + 1 := by omega
  have Bal3 : w1.heap.size < w2.heap.size + 1 + 1 + 1 := by omega
  have Ba0 := Ba.cell 0 _ rfl
  have Ba1 := Ba.cell 1 _ rfl
  have Bbcl := Bbc.lt
  have Bbcf := Bbc.free
  have Bbcl1 : bc < w2.heap.size + 1 := by omega
  have Bbcl2 : bc < w2.heap.size + 1 + 1 := by omega
  have Bbcl3 : bc < w2.heap.size + 1 + 1 + 1 := by omega
  have Bbc0 := Bbc.cell 0 _ rfl
  have Bbc1 := Bbc.cell 1 _ rfl
  go_wp2_with fail
  (with_reducible refine (Cut_in hW k0 k1 (by omega) (by omega) _ _).mono ?_)
  rintro e w3 ⟨rfl, hb⟩
  have Bw' : Box w3 (w.heap.size) #[.int .u64 (limb 0 W), .int .u64 (limb 1 W), .int .u64 (limb 2 W), .int .u64 (limb 3 W)] := Box.call hb (by repeat (first | with_reducible assumption | with_reducible apply Box.set10 | with_reducible apply Box.set20 | with_reducible apply Box.set21 | with_reducible apply Box.set40 | with_reducible apply Box.set41 | with_reducible apply Box.set42 | with_reducible apply Box.set43 | with_reducible apply Box.set50 | with_reducible apply Box.set51 | with_reducible apply Box.set52 | with_reducible apply Box.set53 | with_reducible apply Box.set54 | with_reducible apply Box.drew | (with_reducible apply Box.newAt; (try simp only [World.size_alloc, World.size_setCell, World.size_drew]); done) | with_reducible apply Box.alloc | (with_reducible apply Box.other; case hne => ((try simp only [World.size_alloc, World.size_setCell, World.size_drew]); omega))))
  have Ba' : Box w3 (w1.heap.size) #[.int .u64 0, .int .u64 0] := Box.call hb (by repeat (first | with_reducible assumption | with_reducible apply Box.set10 | with_reducible apply Box.set20 | with_reducible apply Box.set21 | with_reducible apply Box.set40 | with_reducible apply Box.set41 | with_reducible apply Box.set42 | with_reducible apply Box.set43 | with_reducible apply Box.set50 | with_reducible apply Box.set51 | with_reducible apply Box.set52 | with_reducible apply Box.set53 | with_reducible apply Box.set54 | with_reducible apply Box.drew | (with_reducible apply Box.newAt; (try simp only [World.size_alloc, World.size_setCell, World.size_drew]); done) | with_reducible apply Box.alloc | (with_reducible apply Box.other; case hne => ((try simp only [World.size_alloc, World.size_setCell, World.size_drew]); omega))))
  have Bbc' : Box w3 (bc) #[.int .u64 0, .int .u64 0] := Box.call hb (by repeat (first | with_reducible assumption | with_reducible apply Box.set10 | with_reducible apply Box.set20 | with_reducible apply Box.set21 | with_reducible apply Box.set40 | with_reducible apply Box.set41 | with_reducible apply Box.set42 | with_reducible apply Box.set43 | with_reducible apply Box.set50 | with_reducible apply Box.set51 | with_reducible apply Box.set52 | with_reducible apply Box.set53 | with_reducible apply Box.set54 | with_reducible apply Box.drew | (with_reducible apply Box.newAt; (try simp only [World.size_alloc, World.size_setCell, World.size_drew]); done) | with_reducible apply Box.alloc | (with_reducible apply Box.other; case hne => ((try simp only [World.size_alloc, World.size_setCell, World.size_drew]); omega))))
  have hk' : Kept w.heap.size w w3 := Kept.step (by repeat (first | with_reducible exact hk | with_reducible exact Kept.refl _ | with_reducible refine Kept.alloc ?_ _ | with_reducible refine Kept.drew ?_ | with_reducible refine Kept.setCell ?_ (by simp only [World.size_alloc, World.size_setCell, World.size_drew]; omega) _)) hb
  clear hk hb
  clear Bw Bwl1 Bwl2 Bwl3 Bwf Bw0 Bw1 Bw2 Bw3
  clear Ba Bal1 Bal2 Bal3 Baf Ba0 Ba1
  clear Bbc Bbcl1 Bbcl2 Bbcl3 Bbcf Bbc0 Bbc1
  have Bw := Bw'
  clear Bw'
  have Ba := Ba'
  clear Ba'
  have Bbc := Bbc'
  clear Bbc'
  have hk := hk'
  clear hk'
  have hz_w3 := hk.size
  have Bwl := Bw.lt
  have Bwf := Bw.free
  have Bwl1 : w.heap.size < w3.heap.size + 1 := by omega
  have Bwl2 : w.heap.size < w3.heap.size + 1 + 1 := by omega
  have Bwl3 : w.heap.size < w3.heap.size + 1 + 1 + 1 := by omega
  have Bw0 := Bw.cell 0 _ rfl
  have Bw1 := Bw.cell 1 _ rfl
  have Bw2 := Bw.cell 2 _ rfl
  have Bw3 := Bw.cell 3 _ rfl
  have Bal := Ba.lt
  have Baf := Ba.free
  have Bal1 : w1.heap.size < w3.heap.size + 1 := by omega
  have Bal2 : w1.heap.size < w3.heap.size + 1 + 1 := by omega
  have Bal3 : w1.heap.size < w3.heap.size + 1 + 1 + 1 := by omega
  have Ba0 := Ba.cell 0 _ rfl
  have Ba1 := Ba.cell 1 _ rfl
  have Bbcl := Bbc.lt
  have Bbcf := Bbc.free
  have Bbcl1 : bc < w3.heap.size + 1 := by omega
  have Bbcl2 : bc < w3.heap.size + 1 + 1 := by omega
  have Bbcl3 : bc < w3.heap.size + 1 + 1 + 1 := by omega
  have Bbc0 := Bbc.cell 0 _ rfl
  have Bbc1 := Bbc.cell 1 _ rfl
  go_wp2_with fail
  (with_reducible refine (Cut_in hW k0 k1 (by omega) (by omega) _ _).mono ?_)
  rintro e w4 ⟨rfl, hb⟩
  have Bw' : Box w4 (w.heap.size) #[.int .u64 (limb 0 W), .int .u64 (limb 1 W), .int .u64 (limb 2 W), .int .u64 (limb 3 W)] := Box.call hb (by repeat (first | with_reducible assumption | with_reducible apply Box.set10 | with_reducible apply Box.set20 | with_reducible apply Box.set21 | with_reducible apply Box.set40 | with_reducible apply Box.set41 | with_reducible apply Box.set42 | with_reducible apply Box.set43 | with_reducible apply Box.set50 | with_reducible apply Box.set51 | with_reducible apply Box.set52 | with_reducible apply Box.set53 | with_reducible apply Box.set54 | with_reducible apply Box.drew | (with_reducible apply Box.newAt; (try simp only [World.size_alloc, World.size_setCell, World.size_drew]); done) | with_reducible apply Box.alloc | (with_reducible apply Box.other; case hne => ((try simp only [World.size_alloc, World.size_setCell, World.size_drew]); omega))))
  have Ba' : Box w4 (w1.heap.size) #[.int .u64 0, .int .u64 0] := Box.call hb (by repeat (first | with_reducible assumption | with_reducible apply Box.set10 | with_reducible apply Box.set20 | with_reducible apply Box.set21 | with_reducible apply Box.set40 | with_reducible apply Box.set41 | with_reducible apply Box.set42 | with_reducible apply Box.set43 | with_reducible apply Box.set50 | with_reducible apply Box.set51 | with_reducible apply Box.set52 | with_reducible apply Box.set53 | with_reducible apply Box.set54 | with_reducible apply Box.drew | (with_reducible apply Box.newAt; (try simp only [World.size_alloc, World.size_setCell, World.size_drew]); done) | with_reducible apply Box.alloc | (with_reducible apply Box.other; case hne => ((try simp only [World.size_alloc, World.size_setCell, World.size_drew]); omega))))
  have Bbc' : Box w4 (bc) #[.int .u64 0, .int .u64 0] := Box.call hb (by repeat (first | with_reducible assumption | with_reducible apply Box.set10 | with_reducible apply Box.set20 | with_reducible apply Box.set21 | with_reducible apply Box.set40 | with_reducible apply Box.set41 | with_reducible apply Box.set42 | with_reducible apply Box.set43 | with_reducible apply Box.set50 | with_reducible apply Box.set51 | with_reducible apply Box.set52 | with_reducible apply Box.set53 | with_reducible apply Box.set54 | with_reducible apply Box.drew | (with_reducible apply Box.newAt; (try simp only [World.size_alloc, World.size_setCell, World.size_drew]); done) | with_reducible apply Box.alloc | (with_reducible apply Box.other; case hne => ((try simp only [World.size_alloc, World.size_setCell, World.size_drew]); omega))))
  have Bu' : Box w4 (w3.heap.size) #[.int .u64 (limb 1 (cutN W (n % 128) 3 false)), .int .u64 (limb 0 (cutN W (n % 128) 3 false))] := Box.call hb (by repeat (first | with_reducible assumption | with_reducible apply Box.set10 | with_reducible apply Box.set20 | with_reducible apply Box.set21 | with_reducible apply Box.set40 | with_reducible apply Box.set41 | with_reducible apply Box.set42 | with_reducible apply Box.set43 | with_reducible apply Box.set50 | with_reducible apply Box.set51 | with_reducible apply Box.set52 | with_reducible apply Box.set53 | with_reducible apply Box.set54 | with_reducible apply Box.drew | (with_reducible apply Box.newAt; (try simp only [World.size_alloc, World.size_setCell, World.size_drew]); done) | with_reducible apply Box.alloc | (with_reducible apply Box.other; case hne => ((try simp only [World.size_alloc, World.size_setCell, World.size_drew]); omega))))
  have hk' : Kept w.heap.size w w4 := Kept.step (by repeat (first | with_reducible exact hk | with_reducible exact Kept.refl _ | with_reducible refine Kept.alloc ?_ _ | with_reducible refine Kept.drew ?_ | with_reducible refine Kept.setCell ?_ (by simp only [World.size_alloc, World.size_setCell, World.size_drew]; omega) _)) hb
  clear hk hb
  clear Bw Bwl1 Bwl2 Bwl3 Bwf Bw0 Bw1 Bw2 Bw3
  clear Ba Bal1 Bal2 Bal3 Baf Ba0 Ba1
  clear Bbc Bbcl1 Bbcl2 Bbcl3 Bbcf Bbc0 Bbc1
  have Bw := Bw'
  clear Bw'
  have Ba := Ba'
  clear Ba'
  have Bbc := Bbc'
  clear Bbc'
  have Bu := Bu'
  clear Bu'
  have hk := hk'
  clear hk'
  have hz_w4 := hk.size
  have Bwl := Bw.lt
  have Bwf := Bw.free
  have Bwl1 : w.heap.size < w4.heap.size + 1 := by omega
  have Bwl2 : w.heap.size < w4.heap.size + 1 + 1 := by omega
  have Bwl3 : w.heap.size < w4.heap.size + 1 + 1 + 1 := by omega
  have Bw0 := Bw.cell 0 _ rfl
  have Bw1 := Bw.cell 1 _ rfl
  have Bw2 := Bw.cell 2 _ rfl
  have Bw3 := Bw.cell 3 _ rfl
  have Bal := Ba.lt
  have Baf := Ba.free
  have Bal1 : w1.heap.size < w4.heap.size + 1 := by omega
  have Bal2 : w1.heap.size < w4.heap.size + 1 + 1 := by omega
  have Bal3 : w1.heap.size < w4.heap.size + 1 + 1 + 1 := by omega
  have Ba0 := Ba.cell 0 _ rfl
  have Ba1 := Ba.cell 1 _ rfl
  have Bbcl := Bbc.lt
  have Bbcf := Bbc.free
  have Bbcl1 : bc < w4.heap.size + 1 := by omega
  have Bbcl2 : bc < w4.heap.size + 1 + 1 := by omega
  have Bbcl3 : bc < w4.heap.size + 1 + 1 + 1 := by omega
  have Bbc0 := Bbc.cell 0 _ rfl
  have Bbc1 := Bbc.cell 1 _ rfl
  have Bul := Bu.lt
  have Buf := Bu.free
  have Bul1 : w3.heap.size < w4.heap.size + 1 := by omega
  have Bul2 : w3.heap.size < w4.heap.size + 1 + 1 := by omega
  have Bul3 : w3.heap.size < w4.heap.size + 1 + 1 + 1 := by omega
  have Bu0 := Bu.cell 0 _ rfl
  have Bu1 := Bu.cell 1 _ rfl
  go_wp2_with fail
  (with_reducible refine (Add_at (IsBits.of (cut_w hW k0 k1 _ _)) (IsBits.val u64_zero (isU64_mk (by decide +kernel))) _).mono ?_)
  rintro e w5 ⟨rfl, hb⟩
  have Bw' : Box w5 (w.heap.size) #[.int .u64 (limb 0 W), .int .u64 (limb 1 W), .int .u64 (limb 2 W), .int .u64 (limb 3 W)] := Box.call hb (by repeat (first | with_reducible assumption | with_reducible apply Box.set10 | with_reducible apply Box.set20 | with_reducible apply Box.set21 | with_reducible apply Box.set40 | with_reducible apply Box.set41 | with_reducible apply Box.set42 | with_reducible apply Box.set43 | with_reducible apply Box.set50 | with_reducible apply Box.set51 | with_reducible apply Box.set52 | with_reducible apply Box.set53 | with_reducible apply Box.set54 | with_reducible apply Box.drew | (with_reducible apply Box.newAt; (try simp only [World.size_alloc, World.size_setCell, World.size_drew]); done) | with_reducible apply Box.alloc | (with_reducible apply Box.other; case hne => ((try simp only [World.size_alloc, World.size_setCell, World.size_drew]); omega))))
  have Ba' : Box w5 (w1.heap.size) #[.int .u64 0, .int .u64 0] := Box.call hb (by repeat (first | with_reducible assumption | with_reducible apply Box.set10 | with_reducible apply Box.set20 | with_reducible apply Box.set21 | with_reducible apply Box.set40 | with_reducible apply Box.set41 | with_reducible apply Box.set42 | with_reducible apply Box.set43 | with_reducible apply Box.set50 | with_reducible apply Box.set51 | with_reducible apply Box.set52 | with_reducible apply Box.set53 | with_reducible apply Box.set54 | with_reducible apply Box.drew | (with_reducible apply Box.newAt; (try simp only [World.size_alloc, World.size_setCell, World.size_drew]); done) | with_reducible apply Box.alloc | (with_reducible apply Box.other; case hne => ((try simp only [World.size_alloc, World.size_setCell, World.size_drew]); omega))))
  have Bbc' : Box w5 (bc) #[.int .u64 0, .int .u64 0] := Box.call hb (by repeat (first | with_reducible assumption | with_reducible apply Box.set10 | with_reducible apply Box.set20 | with_reducible apply Box.set21 | with_reducible apply Box.set40 | with_reducible apply Box.set41 | with_reducible apply Box.set42 | with_reducible apply Box.set43 | with_reducible apply Box.set50 | with_reducible apply Box.set51 | with_reducible apply Box.set52 | with_reducible apply Box.set53 | with_reducible apply Box.set54 | with_reducible apply Box.drew | (with_reducible apply Box.newAt; (try simp only [World.size_alloc, World.size_setCell, World.size_drew]); done) | with_reducible apply Box.alloc | (with_reducible apply Box.other; case hne => ((try simp only [World.size_alloc, World.size_setCell, World.size_drew]); omega))))
  have Bu' : Box w5 (w3.heap.size) #[.int .u64 (limb 1 (cutN W (n % 128) 3 false)), .int .u64 (limb 0 (cutN W (n % 128) 3 false))] := Box.call hb (by repeat (first | with_reducible assumption | with_reducible apply Box.set10 | with_reducible apply Box.set20 | with_reducible apply Box.set21 | with_reducible apply Box.set40 | with_reducible apply Box.set41 | with_reducible apply Box.set42 | with_reducible apply Box.set43 | with_reducible apply Box.set50 | with_reducible apply Box.set51 | with_reducible apply Box.set52 | with_reducible apply Box.set53 | with_reducible apply Box.set54 | with_reducible apply Box.drew | (with_reducible apply Box.newAt; (try simp only [World.size_alloc, World.size_setCell, World.size_drew]); done) | with_reducible apply Box.alloc | (with_reducible apply Box.other; case hne => ((try simp only [World.size_alloc, World.size_setCell, World.size_drew]); omega))))
  have Bd' : Box w5 (w4.heap.size) #[.int .u64 (limb 1 (cutN W (n % 128) 3 false)), .int .u64 (limb 0 (cutN W (n % 128) 3 false))] := Box.call hb (by repeat (first | with_reducible assumption | with_reducible apply Box.set10 | with_reducible apply Box.set20 | with_reducible apply Box.set21 | with_reducible apply Box.set40 | with_reducible apply Box.set41 | with_reducible apply Box.set42 | with_reducible apply Box.set43 | with_reducible apply Box.set50 | with_reducible apply Box.set51 | with_reducible apply Box.set52 | with_reducible apply Box.set53 | with_reducible apply Box.set54 | with_reducible apply Box.drew | (with_reducible apply Box.newAt; (try simp only [World.size_alloc, World.size_setCell, World.size_drew]); done) | with_reducible apply Box.alloc | (with_reducible apply Box.other; case hne => ((try simp only [World.size_alloc, World.size_setCell, World.size_drew]); omega))))
  have hk' : Kept w.heap.size w w5 := Kept.step (by repeat (first | with_reducible exact hk | with_reducible exact Kept.refl _ | with_reducible refine Kept.alloc ?_ _ | with_reducible refine Kept.drew ?_ | with_reducible refine Kept.setCell ?_ (by simp only [World.size_alloc, World.size_setCell, World.size_drew]; omega) _)) hb
  clear hk hb
  clear Bw Bwl1 Bwl2 Bwl3 Bwf Bw0 Bw1 Bw2 Bw3
  clear Ba Bal1 Bal2 Bal3 Baf Ba0 Ba1
  clear Bbc Bbcl1 Bbcl2 Bbcl3 Bbcf Bbc0 Bbc1
  clear Bu Bul1 Bul2 Bul3 Buf Bu0 Bu1
  have Bw := Bw'
  clear Bw'
  have Ba := Ba'
  clear Ba'
  have Bbc := Bbc'
  clear Bbc'
  have Bu := Bu'
  clear Bu'
  have Bd := Bd'
  clear Bd'
  have hk := hk'
  clear hk'
  have hz_w5 := hk.size
  have Bwl := Bw.lt
  have Bwf := Bw.free
  have Bwl1 : w.heap.size < w5.heap.size + 1 := by omega
  have Bwl2 : w.heap.size < w5.heap.size + 1 + 1 := by omega
  have Bwl3 : w.heap.size < w5.heap.size + 1 + 1 + 1 := by omega
  have Bw0 := Bw.cell 0 _ rfl
  have Bw1 := Bw.cell 1 _ rfl
  have Bw2 := Bw.cell 2 _ rfl
  have Bw3 := Bw.cell 3 _ rfl
  have Bal := Ba.lt
  have Baf := Ba.free
  have Bal1 : w1.heap.size < w5.heap.size + 1 := by omega
  have Bal2 : w1.heap.size < w5.heap.size + 1 + 1 := by omega
  have Bal3 : w1.heap.size < w5.heap.size + 1 + 1 + 1 := by omega
  have Ba0 := Ba.cell 0 _ rfl
  have Ba1 := Ba.cell 1 _ rfl
  have Bbcl := Bbc.lt
  have Bbcf := Bbc.free
  have Bbcl1 : bc < w5.heap.size + 1 := by omega
  have Bbcl2 : bc < w5.heap.size + 1 + 1 := by omega
  have Bbcl3 : bc < w5.heap.size + 1 + 1 + 1 := by omega
  have Bbc0 := Bbc.cell 0 _ rfl
  have Bbc1 := Bbc.cell 1 _ rfl
  have Bul := Bu.lt
  have Buf := Bu.free
  have Bul1 : w3.heap.size < w5.heap.size + 1 := by omega
  have Bul2 : w3.heap.size < w5.heap.size + 1 + 1 := by omega
  have Bul3 : w3.heap.size < w5.heap.size + 1 + 1 + 1 := by omega
  have Bu0 := Bu.cell 0 _ rfl
  have Bu1 := Bu.cell 1 _ rfl
  have Bdl := Bd.lt
  have Bdf := Bd.free
  have Bdl1 : w4.heap.size < w5.heap.size + 1 := by omega
  have Bdl2 : w4.heap.size < w5.heap.size + 1 + 1 := by omega
  have Bdl3 : w4.heap.size < w5.heap.size + 1 + 1 + 1 := by omega
  have Bd0 := Bd.cell 0 _ rfl
  have Bd1 := Bd.cell 1 _ rfl
  go_wp2_with fail
  (with_reducible refine (goes15_any _).mono ?_)
  rintro e w6 ⟨rfl, hb⟩
  have Bw' : Box w6 (w.heap.size) #[.int .u64 (limb 0 W), .int .u64 (limb 1 W), .int .u64 (limb 2 W), .int .u64 (limb 3 W)] := Box.call hb (by repeat (first | with_reducible assumption | with_reducible apply Box.set10 | with_reducible apply Box.set20 | with_reducible apply Box.set21 | with_reducible apply Box.set40 | with_reducible apply Box.set41 | with_reducible apply Box.set42 | with_reducible apply Box.set43 | with_reducible apply Box.set50 | with_reducible apply Box.set51 | with_reducible apply Box.set52 | with_reducible apply Box.set53 | with_reducible apply Box.set54 | with_reducible apply Box.drew | (with_reducible apply Box.newAt; (try simp only [World.size_alloc, World.size_setCell, World.size_drew]); done) | with_reducible apply Box.alloc | (with_reducible apply Box.other; case hne => ((try simp only [World.size_alloc, World.size_setCell, World.size_drew]); omega))))
  have Ba' : Box w6 (w1.heap.size) #[.int .u64 0, .int .u64 0] := Box.call hb (by repeat (first | with_reducible assumption | with_reducible apply Box.set10 | with_reducible apply Box.set20 | with_reducible apply Box.set21 | with_reducible apply Box.set40 | with_reducible apply Box.set41 | with_reducible apply Box.set42 | with_reducible apply Box.set43 | with_reducible apply Box.set50 | with_reducible apply Box.set51 | with_reducible apply Box.set52 | with_reducible apply Box.set53 | with_reducible apply Box.set54 | with_reducible apply Box.drew | (with_reducible apply Box.newAt; (try simp only [World.size_alloc, World.size_setCell, World.size_drew]); done) | with_reducible apply Box.alloc | (with_reducible apply Box.other; case hne => ((try simp only [World.size_alloc, World.size_setCell, World.size_drew]); omega))))
  have Bbc' : Box w6 (bc) #[.int .u64 0, .int .u64 0] := Box.call hb (by repeat (first | with_reducible assumption | with_reducible apply Box.set10 | with_reducible apply Box.set20 | with_reducible apply Box.set21 | with_reducible apply Box.set40 | with_reducible apply Box.set41 | with_reducible apply Box.set42 | with_reducible apply Box.set43 | with_reducible apply Box.set50 | with_reducible apply Box.set51 | with_reducible apply Box.set52 | with_reducible apply Box.set53 | with_reducible apply Box.set54 | with_reducible apply Box.drew | (with_reducible apply Box.newAt; (try simp only [World.size_alloc, World.size_setCell, World.size_drew]); done) | with_reducible apply Box.alloc | (with_reducible apply Box.other; case hne => ((try simp only [World.size_alloc, World.size_setCell, World.size_drew]); omega))))
  have Bu' : Box w6 (w3.heap.size) #[.int .u64 (limb 1 (cutN W (n % 128) 3 false)), .int .u64 (limb 0 (cutN W (n % 128) 3 false))] := Box.call hb (by repeat (first | with_reducible assumption | with_reducible apply Box.set10 | with_reducible apply Box.set20 | with_reducible apply Box.set21 | with_reducible apply Box.set40 | with_reducible apply Box.set41 | with_reducible apply Box.set42 | with_reducible apply Box.set43 | with_reducible apply Box.set50 | with_reducible apply Box.set51 | with_reducible apply Box.set52 | with_reducible apply Box.set53 | with_reducible apply Box.set54 | with_reducible apply Box.drew | (with_reducible apply Box.newAt; (try simp only [World.size_alloc, World.size_setCell, World.size_drew]); done) | with_reducible apply Box.alloc | (with_reducible apply Box.other; case hne => ((try simp only [World.size_alloc, World.size_setCell, World.size_drew]); omega))))
  have Bd' : Box w6 (w4.heap.size) #[.int .u64 (limb 1 (cutN W (n % 128) 3 false)), .int .u64 (limb 0 (cutN W (n % 128) 3 false))] := Box.call hb (by repeat (first | with_reducible assumption | with_reducible apply Box.set10 | with_reducible apply Box.set20 | with_reducible apply Box.set21 | with_reducible apply Box.set40 | with_reducible apply Box.set41 | with_reducible apply Box.set42 | with_reducible apply Box.set43 | with_reducible apply Box.set50 | with_reducible apply Box.set51 | with_reducible apply Box.set52 | with_reducible apply Box.set53 | with_reducible apply Box.set54 | with_reducible apply Box.drew | (with_reducible apply Box.newAt; (try simp only [World.size_alloc, World.size_setCell, World.size_drew]); done) | with_reducible apply Box.alloc | (with_reducible apply Box.other; case hne => ((try simp only [World.size_alloc, World.size_setCell, World.size_drew]); omega))))
  have Bn' : Box w6 (w5.heap.size) #[.int .u64 (limb 1 (add128 (cutN W (n % 128) 3 false) (val2 1 0))), .int .u64 (limb 0 (add128 (cutN W (n % 128) 3 false) (val2 1 0)))] := Box.call hb (by repeat (first | with_reducible assumption | with_reducible apply Box.set10 | with_reducible apply Box.set20 | with_reducible apply Box.set21 | with_reducible apply Box.set40 | with_reducible apply Box.set41 | with_reducible apply Box.set42 | with_reducible apply Box.set43 | with_reducible apply Box.set50 | with_reducible apply Box.set51 | with_reducible apply Box.set52 | with_reducible apply Box.set53 | with_reducible apply Box.set54 | with_reducible apply Box.drew | (with_reducible apply Box.newAt; (try simp only [World.size_alloc, World.size_setCell, World.size_drew]); done) | with_reducible apply Box.alloc | (with_reducible apply Box.other; case hne => ((try simp only [World.size_alloc, World.size_setCell, World.size_drew]); omega))))
  have hk' : Kept w.heap.size w w6 := Kept.step (by repeat (first | with_reducible exact hk | with_reducible exact Kept.refl _ | with_reducible refine Kept.alloc ?_ _ | with_reducible refine Kept.drew ?_ | with_reducible refine Kept.setCell ?_ (by simp only [World.size_alloc, World.size_setCell, World.size_drew]; omega) _)) hb
  clear hk hb
  clear Bw Bwl1 Bwl2 Bwl3 Bwf Bw0 Bw1 Bw2 Bw3
  clear Ba Bal1 Bal2 Bal3 Baf Ba0 Ba1
  clear Bbc Bbcl1 Bbcl2 Bbcl3 Bbcf Bbc0 Bbc1
  clear Bu Bul1 Bul2 Bul3 Buf Bu0 Bu1
  clear Bd Bdl1 Bdl2 Bdl3 Bdf Bd0 Bd1
  have Bw := Bw'
  clear Bw'
  have Ba := Ba'
  clear Ba'
  have Bbc := Bbc'
  clear Bbc'
  have Bu := Bu'
  clear Bu'
  have Bd := Bd'
  clear Bd'
  have Bn := Bn'
  clear Bn'
  have hk := hk'
  clear hk'
  have hz_w6 := hk.size
  have Bwl := Bw.lt
  have Bwf := Bw.free
  have Bwl1 : w.heap.size < w6.heap.size + 1 := by omega
  have Bwl2 : w.heap.size < w6.heap.size + 1 + 1 := by omega
  have Bwl3 : w.heap.size < w6.heap.size + 1 + 1 + 1 := by omega
  have Bw0 := Bw.cell 0 _ rfl
  have Bw1 := Bw.cell 1 _ rfl
  have Bw2 := Bw.cell 2 _ rfl
  have Bw3 := Bw.cell 3 _ rfl
  have Bal := Ba.lt
  have Baf := Ba.free
  have Bal1 : w1.heap.size < w6.heap.size + 1 := by omega
  have Bal2 : w1.heap.size < w6.heap.size + 1 + 1 := by omega
  have Bal3 : w1.heap.size < w6.heap.size + 1 + 1 + 1 := by omega
  have Ba0 := Ba.cell 0 _ rfl
  have Ba1 := Ba.cell 1 _ rfl
  have Bbcl := Bbc.lt
  have Bbcf := Bbc.free
  have Bbcl1 : bc < w6.heap.size + 1 := by omega
  have Bbcl2 : bc < w6.heap.size + 1 + 1 := by omega
  have Bbcl3 : bc < w6.heap.size + 1 + 1 + 1 := by omega
  have Bbc0 := Bbc.cell 0 _ rfl
  have Bbc1 := Bbc.cell 1 _ rfl
  have Bul := Bu.lt
  have Buf := Bu.free
  have Bul1 : w3.heap.size < w6.heap.size + 1 := by omega
  have Bul2 : w3.heap.size < w6.heap.size + 1 + 1 := by omega
  have Bul3 : w3.heap.size < w6.heap.size + 1 + 1 + 1 := by omega
  have Bu0 := Bu.cell 0 _ rfl
  have Bu1 := Bu.cell 1 _ rfl
  have Bdl := Bd.lt
  have Bdf := Bd.free
  have Bdl1 : w4.heap.size < w6.heap.size + 1 := by omega
  have Bdl2 : w4.heap.size < w6.heap.size + 1 + 1 := by omega
  have Bdl3 : w4.heap.size < w6.heap.size + 1 + 1 + 1 := by omega
  have Bd0 := Bd.cell 0 _ rfl
  have Bd1 := Bd.cell 1 _ rfl
  have Bnl := Bn.lt
  have Bnf := Bn.free
  have Bnl1 : w5.heap.size < w6.heap.size + 1 := by omega
  have Bnl2 : w5.heap.size < w6.heap.size + 1 + 1 := by omega
  have Bnl3 : w5.heap.size < w6.heap.size + 1 + 1 + 1 := by omega
  have Bn0 := Bn.cell 0 _ rfl
  have Bn1 := Bn.cell 1 _ rfl
  go_wp2
  go_ret
  exact ⟨rfl, (by refine Kept.below ?_; repeat (first | with_reducible exact hk | with_reducible exact Kept.refl _ | with_reducible refine Kept.alloc ?_ _ | with_reducible refine Kept.drew ?_ | with_reducible refine Kept.setCell ?_ (by simp only [World.size_alloc, World.size_setCell, World.size_drew]; omega) _))⟩

theorem RoundMirror_walk {W : Nat} (hW : W256 W) {n m : Int} (n0 : 0 ≤ n) (n1 : n ≤ 255) (m0 : 0 ≤ m) (m1 : m ≤ 255) (w : World) :
    Calls Try.prog 6 #[wideV W, .int .u8 n, .int .u8 m] w fun e w' => e = .returned (.bool true) ∧ Below w.heap.size w w' := by
  by_cases hm : m ≤ 4
  · cases h : moreB W (n % 128) with
    | true => exact RoundMirror_im hW n0 n1 m0 m1 hm h w
    | false => exact RoundMirror_in hW n0 n1 m0 m1 hm h w
  · cases h : moreB W (n % 128) with
    | true => exact RoundMirror_om hW n0 n1 m0 m1 (by omega) h w
    | false => exact RoundMirror_on hW n0 n1 m0 m1 (by omega) h w
end Go.Proofs.Ytpeamkplhfddbaa
