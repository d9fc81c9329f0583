/- round.Cut: its contract. -/
import Derived.Test.YtpfoifflfgiaoaaGreatDoorK05
import Derived.Test.YtpfoifflfgiaoaaGreatDoorK02
set_option linter.unusedVariables false
set_option linter.unusedSimpArgs false
namespace Go.Proofs.YtpfoifflfgiaoaaGreatDoor
open Go.RowKit

theorem bit_at2 (W s : Nat) (h : s < 64) (i : Nat) : (bits .and .u64 (limb i W / 2 ^ s) 1 == 1) = bitZ W ((64 * i + s : Nat) : Int) := by
  rw [bit_and (limb_u64 _ _), bit_limb, decide_eq_true h, Bool.true_and]
  unfold bitZ
  rw [decide_eq_true (by omega : (0 : Int) ≤ ((64 * i + s : Nat) : Int)), Bool.true_and, Int.toNat_natCast]
theorem odd_at (F : Nat) : (bits .and .u64 (limb 0 F) 1 == 1) = oddB F := by
  have h := bit_at2 F 0 (by omega) 0
  rw [show ((2 : Int) ^ 0) = 1 from rfl, Int.ediv_one] at h
  rw [h]
  unfold bitZ oddB
  simp [Nat.testBit_zero]

theorem Rest1_nat {X : Nat} (i s : Nat) (hi : i = 2 ∨ i = 3) (hs : s < 64) (w0 w : World) (hS : Kept w0.heap.size w0 w ∧ w0.heap.size < w.heap.size ∧ w.cell? ⟨w0.heap.size, 0, none⟩ = some (.int .u64 (limb 0 X)) ∧ w.cell? ⟨w0.heap.size, 1, none⟩ = some (.int .u64 (limb 1 X)) ∧ w.cell? ⟨w0.heap.size, 2, none⟩ = some (.int .u64 (limb 2 X)) ∧ w.cell? ⟨w0.heap.size, 3, none⟩ = some (.int .u64 (limb 3 X))) :
    Calls Tryz.prog 266 #[.int .i64 ((64 * i + s : Nat) : Int), .pointer (some ⟨w0.heap.size, 0, none⟩)] w fun e w' => e = .returned (.bool (bitZ X ((64 * i + s : Nat) : Int))) ∧ w = w' := by
  obtain ⟨_, _, c0, c1, c2, c3⟩ := hS
  have h63 : bits .and .i64 ((64 * i + s : Nat) : Int) 63 = (s : Int) := by rw [and63]; omega
  have hq : ((64 * i + s : Nat) : Int) / 64 = (i : Int) := by omega
  have hr := bit_at2 X s hs i
  generalize ((64 * i + s : Nat) : Int) = z at *
  have hs0 : (0 : Int) ≤ s := by omega
  have hs1 : (s : Int) < 64 := by omega
  have HR := Lib.hid hr
  clear hr
  rcases hi with rfl | rfl
  all_goals
    go_enter Tryz.func266, Tryz.ntmps266
    go_wp2
    go_ret
    exact ⟨ret_bool HR.out, rfl⟩
theorem Rest1_any {X : Nat} {i : Int} (h0 : 128 ≤ i) (h1 : i ≤ 255) (w0 w : World) (hS : Kept w0.heap.size w0 w ∧ w0.heap.size < w.heap.size ∧ w.cell? ⟨w0.heap.size, 0, none⟩ = some (.int .u64 (limb 0 X)) ∧ w.cell? ⟨w0.heap.size, 1, none⟩ = some (.int .u64 (limb 1 X)) ∧ w.cell? ⟨w0.heap.size, 2, none⟩ = some (.int .u64 (limb 2 X)) ∧ w.cell? ⟨w0.heap.size, 3, none⟩ = some (.int .u64 (limb 3 X))) :
    Calls Tryz.prog 266 #[.int .i64 i, .pointer (some ⟨w0.heap.size, 0, none⟩)] w fun e w' => e = .returned (.bool (bitZ X i)) ∧ w = w' := by
  obtain ⟨s, hs, e⟩ : ∃ s : Nat, s < 64 ∧ (i = ((64 * 2 + s : Nat) : Int) ∨ i = ((64 * 3 + s : Nat) : Int)) := ⟨(i % 64).toNat, by omega, by omega⟩
  rcases e with rfl | rfl
  · exact Rest1_nat 2 s (Or.inl rfl) hs w0 w hS
  · exact Rest1_nat 3 s (Or.inr rfl) hs w0 w hS

set_option maxRecDepth 100000 in
set_option maxHeartbeats 2000000 in
theorem Rest_in {X : Nat} (hX : W256 X) {k : Int} (k0 : 0 ≤ k) (k1 : k ≤ 127) (w : World) :
    Calls Tryz.prog 228 #[wideV X, .int .i64 k] w fun e w' => e = .returned (.int .u8 (restI X k)) ∧ Below w.heap.size w w' := by
  have f0 : IntKind.i64.wrap (255 - k) = 255 - k := IntWalk.i64_in _ (by omega)
  have hs : ∀ W W' : World, Below W.heap.size W W' → (Kept w.heap.size w W ∧ w.heap.size < W.heap.size ∧ W.cell? ⟨w.heap.size, 0, none⟩ = some (.int .u64 (limb 0 X)) ∧ W.cell? ⟨w.heap.size, 1, none⟩ = some (.int .u64 (limb 1 X)) ∧ W.cell? ⟨w.heap.size, 2, none⟩ = some (.int .u64 (limb 2 X)) ∧ W.cell? ⟨w.heap.size, 3, none⟩ = some (.int .u64 (limb 3 X))) → (Kept w.heap.size w W' ∧ w.heap.size < W'.heap.size ∧ W'.cell? ⟨w.heap.size, 0, none⟩ = some (.int .u64 (limb 0 X)) ∧ W'.cell? ⟨w.heap.size, 1, none⟩ = some (.int .u64 (limb 1 X)) ∧ W'.cell? ⟨w.heap.size, 2, none⟩ = some (.int .u64 (limb 2 X)) ∧ W'.cell? ⟨w.heap.size, 3, none⟩ = some (.int .u64 (limb 3 X))) := fun W W' hb h => ⟨h.1.step hb, Nat.lt_of_lt_of_le (h.2.1) hb.size, (hb.cell (h.2.1)).trans (h.2.2.1), (hb.cell (h.2.1)).trans (h.2.2.2.1), (hb.cell (h.2.1)).trans (h.2.2.2.2.1), (hb.cell (h.2.1)).trans (h.2.2.2.2.2)⟩
  have HS := Lib.hid hs; clear hs
  go_enter Tryz.func228, Tryz.ntmps228
  go_wp2
  go_region_held3 (fun W' => Kept w.heap.size w W' ∧ w.heap.size < W'.heap.size ∧ W'.cell? ⟨w.heap.size, 0, none⟩ = some (.int .u64 (limb 0 X)) ∧ W'.cell? ⟨w.heap.size, 1, none⟩ = some (.int .u64 (limb 1 X)) ∧ W'.cell? ⟨w.heap.size, 2, none⟩ = some (.int .u64 (limb 2 X)) ∧ W'.cell? ⟨w.heap.size, 3, none⟩ = some (.int .u64 (limb 3 X)))
    ((first | (with_reducible exact HS.out _ _ (by assumption) (by assumption)) | assumption | (with_reducible exact HS.out _ _ ((Below.refl _ _).drew) (by assumption)) | exact ⟨by repeat (first | with_reducible assumption | with_reducible exact Kept.refl _ | with_reducible refine Kept.alloc ?_ _ | with_reducible refine Kept.drew ?_ | with_reducible refine Kept.setCell ?_ (by simp; try omega) _), (by go_simp), (by go_simp), (by go_simp), (by go_simp), (by go_simp)⟩))
    (first
      | (go_at_call 266; refine (Rest1_any (by omega) (by omega) w _ (by assumption)).mono ?_; rintro e w' ⟨rfl, rfl⟩)
      | (go_at_call 234; refine (Lost_at (IsWide.of hX) _ (by omega) (by omega) _).mono ?_; rintro e w' ⟨rfl, hb⟩)
      | (go_at_call 267; refine (Of_any _ _ _).mono ?_; rintro e w' ⟨rfl, rfl⟩))
  all_goals go_wp2
  all_goals go_ret
  all_goals (refine ⟨rfl, ?_⟩; apply kept_of; assumption)
set_option maxRecDepth 100000 in
set_option maxHeartbeats 4000000 in
theorem Cut_up {X : Nat} (hX : W256 X) {k m : Int} (k0 : 0 ≤ k) (k1 : k ≤ 127) (m0 : 0 ≤ m) (m1 : m ≤ 4) (neg : Bool) (h : upB X k m neg = true) (w : World) :
    Calls Tryz.prog 160 #[wideV X, .int .i64 k, .int .u8 m, .bool neg] w fun e w' => e = .returned (.tuple #[bitsV (cutN X k m neg), .bool (moreB X k)]) ∧ Below w.heap.size w w' := by
  have hk := Kept.refl w
  have f1 : loN (rightN X (256 - k)) = floorN X k := lo_small (floor_w hX k0 k1)
  have f2 := odd_at (floorN X k)
  have rr := restI_range X k
  have HM := Lib.hid (show (restI X k != 0) = moreB X k by unfold moreB; rw [Bool.eq_iff_iff]; simp)
  have hF := floor_w hX k0 k1
  have hF2 := floor_lt hX k0 k1
  have HC := Lib.hid (cut_up h)
  have f3 : nextB m neg (oddB (floorN X k)) (restI X k) = true := h
  clear h
  have f4 : add128 (floorN X k) (val2 1 0) = floorN X k + 1 := add_one128 hF2
  go_enter Tryz.func160, Tryz.ntmps160
  go_wp2_with fail
  (with_reducible refine (Known_any _ _).mono ?_)
  rintro e w' ⟨rfl, rfl⟩
  go_wp2_with fail
  (with_reducible refine (WideRight_at (IsWide.of hX) _ (by omega) (by omega) _).mono ?_)
  rintro e w1 ⟨rfl, hb⟩
  have Bw' : Box w1 (w.heap.size) _ := Box.call hb (by repeat (first | with_reducible assumption | with_reducible apply Box.set10 | with_reducible apply Box.set20 | with_reducible apply Box.set21 | with_reducible apply Box.set40 | with_reducible apply Box.set41 | with_reducible apply Box.set42 | with_reducible apply Box.set43 | with_reducible apply Box.set50 | with_reducible apply Box.set51 | with_reducible apply Box.set52 | with_reducible apply Box.set53 | with_reducible apply Box.set54 | with_reducible apply Box.drew | (with_reducible apply Box.newAt; (try simp only [World.size_alloc, World.size_setCell, World.size_drew]); done) | with_reducible apply Box.alloc | (with_reducible apply Box.other; case hne => ((try simp only [World.size_alloc, World.size_setCell, World.size_drew]); omega))))
  have Bo' : Box w1 (w.heap.size + 1) _ := Box.call hb (by repeat (first | with_reducible assumption | with_reducible apply Box.set10 | with_reducible apply Box.set20 | with_reducible apply Box.set21 | with_reducible apply Box.set40 | with_reducible apply Box.set41 | with_reducible apply Box.set42 | with_reducible apply Box.set43 | with_reducible apply Box.set50 | with_reducible apply Box.set51 | with_reducible apply Box.set52 | with_reducible apply Box.set53 | with_reducible apply Box.set54 | with_reducible apply Box.drew | (with_reducible apply Box.newAt; (try simp only [World.size_alloc, World.size_setCell, World.size_drew]); done) | with_reducible apply Box.alloc | (with_reducible apply Box.other; case hne => ((try simp only [World.size_alloc, World.size_setCell, World.size_drew]); omega))))
  have hk' : Kept w.heap.size w w1 := Kept.step (by repeat (first | with_reducible exact hk | with_reducible exact Kept.refl _ | with_reducible refine Kept.alloc ?_ _ | with_reducible refine Kept.drew ?_ | with_reducible refine Kept.setCell ?_ (by simp only [World.size_alloc, World.size_setCell, World.size_drew]; omega) _)) hb
  clear hk
  have Bw := Bw'
  clear Bw'
  have Bo := Bo'
  clear Bo'
  have hk := hk'
  clear hk' hb
  have hz_w1 := hk.size
  have Bwc := Bw.cell
  have Bwl := Bw.lt
  have Bwf := Bw.free
  have Bwl1 : w.heap.size < w1.heap.size + 1 := by omega
  have Bwl2 : w.heap.size < w1.heap.size + 1 + 1 := by omega
  have Bwl3 : w.heap.size < w1.heap.size + 1 + 1 + 1 := by omega
  have Bw0 := Bwc 0 _ rfl
  have Bw1 := Bwc 1 _ rfl
  have Bw2 := Bwc 2 _ rfl
  have Bw3 := Bwc 3 _ rfl
  clear Bwc
  have Boc := Bo.cell
  have Bol := Bo.lt
  have Bof := Bo.free
  have Bol1 : w.heap.size + 1 < w1.heap.size + 1 := by omega
  have Bol2 : w.heap.size + 1 < w1.heap.size + 1 + 1 := by omega
  have Bol3 : w.heap.size + 1 < w1.heap.size + 1 + 1 + 1 := by omega
  have Bo0 := Boc 0 _ rfl
  have Bo1 := Boc 1 _ rfl
  clear Boc
  go_wp2_with fail
  (with_reducible refine (Low_at (IsWide.of (right_w hX _)) _).mono ?_)
  rintro e w2 ⟨rfl, hb⟩
  have Bw' : Box w2 (w.heap.size) _ := Box.call hb (by repeat (first | with_reducible assumption | with_reducible apply Box.set10 | with_reducible apply Box.set20 | with_reducible apply Box.set21 | with_reducible apply Box.set40 | with_reducible apply Box.set41 | with_reducible apply Box.set42 | with_reducible apply Box.set43 | with_reducible apply Box.set50 | with_reducible apply Box.set51 | with_reducible apply Box.set52 | with_reducible apply Box.set53 | with_reducible apply Box.set54 | with_reducible apply Box.drew | (with_reducible apply Box.newAt; (try simp only [World.size_alloc, World.size_setCell, World.size_drew]); done) | with_reducible apply Box.alloc | (with_reducible apply Box.other; case hne => ((try simp only [World.size_alloc, World.size_setCell, World.size_drew]); omega))))
  have Bo' : Box w2 (w.heap.size + 1) _ := Box.call hb (by repeat (first | with_reducible assumption | with_reducible apply Box.set10 | with_reducible apply Box.set20 | with_reducible apply Box.set21 | with_reducible apply Box.set40 | with_reducible apply Box.set41 | with_reducible apply Box.set42 | with_reducible apply Box.set43 | with_reducible apply Box.set50 | with_reducible apply Box.set51 | with_reducible apply Box.set52 | with_reducible apply Box.set53 | with_reducible apply Box.set54 | with_reducible apply Box.drew | (with_reducible apply Box.newAt; (try simp only [World.size_alloc, World.size_setCell, World.size_drew]); done) | with_reducible apply Box.alloc | (with_reducible apply Box.other; case hne => ((try simp only [World.size_alloc, World.size_setCell, World.size_drew]); omega))))
  have hk' : Kept w.heap.size w w2 := Kept.step (by repeat (first | with_reducible exact hk | with_reducible exact Kept.refl _ | with_reducible refine Kept.alloc ?_ _ | with_reducible refine Kept.drew ?_ | with_reducible refine Kept.setCell ?_ (by simp only [World.size_alloc, World.size_setCell, World.size_drew]; omega) _)) hb
  clear hk
  clear Bwl1 Bwl2 Bwl3 Bwf Bw0 Bw1 Bw2 Bw3
  clear Bol1 Bol2 Bol3 Bof Bo0 Bo1
  clear Bw
  clear Bo
  have Bw := Bw'
  clear Bw'
  have Bo := Bo'
  clear Bo'
  have hk := hk'
  clear hk' hb
  have hz_w2 := hk.size
  have Bwc := Bw.cell
  have Bwl := Bw.lt
  have Bwf := Bw.free
  have Bwl1 : w.heap.size < w2.heap.size + 1 := by omega
  have Bwl2 : w.heap.size < w2.heap.size + 1 + 1 := by omega
  have Bwl3 : w.heap.size < w2.heap.size + 1 + 1 + 1 := by omega
  have Bw0 := Bwc 0 _ rfl
  have Bw1 := Bwc 1 _ rfl
  have Bw2 := Bwc 2 _ rfl
  have Bw3 := Bwc 3 _ rfl
  clear Bwc
  have Boc := Bo.cell
  have Bol := Bo.lt
  have Bof := Bo.free
  have Bol1 : w.heap.size + 1 < w2.heap.size + 1 := by omega
  have Bol2 : w.heap.size + 1 < w2.heap.size + 1 + 1 := by omega
  have Bol3 : w.heap.size + 1 < w2.heap.size + 1 + 1 + 1 := by omega
  have Bo0 := Boc 0 _ rfl
  have Bo1 := Boc 1 _ rfl
  clear Boc
  go_wp2_with fail
  (with_reducible refine (Rest_in hX k0 k1 _).mono ?_)
  rintro e w3 ⟨rfl, hb⟩
  have Bw' : Box w3 (w.heap.size) _ := Box.call hb (by repeat (first | with_reducible assumption | with_reducible apply Box.set10 | with_reducible apply Box.set20 | with_reducible apply Box.set21 | with_reducible apply Box.set40 | with_reducible apply Box.set41 | with_reducible apply Box.set42 | with_reducible apply Box.set43 | with_reducible apply Box.set50 | with_reducible apply Box.set51 | with_reducible apply Box.set52 | with_reducible apply Box.set53 | with_reducible apply Box.set54 | with_reducible apply Box.drew | (with_reducible apply Box.newAt; (try simp only [World.size_alloc, World.size_setCell, World.size_drew]); done) | with_reducible apply Box.alloc | (with_reducible apply Box.other; case hne => ((try simp only [World.size_alloc, World.size_setCell, World.size_drew]); omega))))
  have Bo' : Box w3 (w.heap.size + 1) _ := Box.call hb (by repeat (first | with_reducible assumption | with_reducible apply Box.set10 | with_reducible apply Box.set20 | with_reducible apply Box.set21 | with_reducible apply Box.set40 | with_reducible apply Box.set41 | with_reducible apply Box.set42 | with_reducible apply Box.set43 | with_reducible apply Box.set50 | with_reducible apply Box.set51 | with_reducible apply Box.set52 | with_reducible apply Box.set53 | with_reducible apply Box.set54 | with_reducible apply Box.drew | (with_reducible apply Box.newAt; (try simp only [World.size_alloc, World.size_setCell, World.size_drew]); done) | with_reducible apply Box.alloc | (with_reducible apply Box.other; case hne => ((try simp only [World.size_alloc, World.size_setCell, World.size_drew]); omega))))
  have Bf' : Box w3 (w2.heap.size) _ := Box.call hb (by repeat (first | with_reducible assumption | with_reducible apply Box.set10 | with_reducible apply Box.set20 | with_reducible apply Box.set21 | with_reducible apply Box.set40 | with_reducible apply Box.set41 | with_reducible apply Box.set42 | with_reducible apply Box.set43 | with_reducible apply Box.set50 | with_reducible apply Box.set51 | with_reducible apply Box.set52 | with_reducible apply Box.set53 | with_reducible apply Box.set54 | with_reducible apply Box.drew | (with_reducible apply Box.newAt; (try simp only [World.size_alloc, World.size_setCell, World.size_drew]); done) | with_reducible apply Box.alloc | (with_reducible apply Box.other; case hne => ((try simp only [World.size_alloc, World.size_setCell, World.size_drew]); omega))))
  have hk' : Kept w.heap.size w w3 := Kept.step (by repeat (first | with_reducible exact hk | with_reducible exact Kept.refl _ | with_reducible refine Kept.alloc ?_ _ | with_reducible refine Kept.drew ?_ | with_reducible refine Kept.setCell ?_ (by simp only [World.size_alloc, World.size_setCell, World.size_drew]; omega) _)) hb
  clear hk
  clear Bwl1 Bwl2 Bwl3 Bwf Bw0 Bw1 Bw2 Bw3
  clear Bol1 Bol2 Bol3 Bof Bo0 Bo1
  clear Bw
  clear Bo
  have Bw := Bw'
  clear Bw'
  have Bo := Bo'
  clear Bo'
  have Bf := Bf'
  clear Bf'
  have hk := hk'
  clear hk' hb
  have hz_w3 := hk.size
  have Bwc := Bw.cell
  have Bwl := Bw.lt
  have Bwf := Bw.free
  have Bwl1 : w.heap.size < w3.heap.size + 1 := by omega
  have Bwl2 : w.heap.size < w3.heap.size + 1 + 1 := by omega
  have Bwl3 : w.heap.size < w3.heap.size + 1 + 1 + 1 := by omega
  have Bw0 := Bwc 0 _ rfl
  have Bw1 := Bwc 1 _ rfl
  have Bw2 := Bwc 2 _ rfl
  have Bw3 := Bwc 3 _ rfl
  clear Bwc
  have Boc := Bo.cell
  have Bol := Bo.lt
  have Bof := Bo.free
  have Bol1 : w.heap.size + 1 < w3.heap.size + 1 := by omega
  have Bol2 : w.heap.size + 1 < w3.heap.size + 1 + 1 := by omega
  have Bol3 : w.heap.size + 1 < w3.heap.size + 1 + 1 + 1 := by omega
  have Bo0 := Boc 0 _ rfl
  have Bo1 := Boc 1 _ rfl
  clear Boc
  have Bfc := Bf.cell
  have Bfl := Bf.lt
  have Bff := Bf.free
  have Bfl1 : w2.heap.size < w3.heap.size + 1 := by omega
  have Bfl2 : w2.heap.size < w3.heap.size + 1 + 1 := by omega
  have Bfl3 : w2.heap.size < w3.heap.size + 1 + 1 + 1 := by omega
  have Bf0 := Bfc 0 _ rfl
  have Bf1 := Bfc 1 _ rfl
  clear Bfc
  go_wp2_with fail
  (with_reducible refine (Next_any _ _ _ _ m0 rr.1 _).mono ?_)
  rintro e w4 ⟨rfl, hb⟩
  have Bw' : Box w4 (w.heap.size) _ := Box.call hb (by repeat (first | with_reducible assumption | with_reducible apply Box.set10 | with_reducible apply Box.set20 | with_reducible apply Box.set21 | with_reducible apply Box.set40 | with_reducible apply Box.set41 | with_reducible apply Box.set42 | with_reducible apply Box.set43 | with_reducible apply Box.set50 | with_reducible apply Box.set51 | with_reducible apply Box.set52 | with_reducible apply Box.set53 | with_reducible apply Box.set54 | with_reducible apply Box.drew | (with_reducible apply Box.newAt; (try simp only [World.size_alloc, World.size_setCell, World.size_drew]); done) | with_reducible apply Box.alloc | (with_reducible apply Box.other; case hne => ((try simp only [World.size_alloc, World.size_setCell, World.size_drew]); omega))))
  have Bo' : Box w4 (w.heap.size + 1) _ := Box.call hb (by repeat (first | with_reducible assumption | with_reducible apply Box.set10 | with_reducible apply Box.set20 | with_reducible apply Box.set21 | with_reducible apply Box.set40 | with_reducible apply Box.set41 | with_reducible apply Box.set42 | with_reducible apply Box.set43 | with_reducible apply Box.set50 | with_reducible apply Box.set51 | with_reducible apply Box.set52 | with_reducible apply Box.set53 | with_reducible apply Box.set54 | with_reducible apply Box.drew | (with_reducible apply Box.newAt; (try simp only [World.size_alloc, World.size_setCell, World.size_drew]); done) | with_reducible apply Box.alloc | (with_reducible apply Box.other; case hne => ((try simp only [World.size_alloc, World.size_setCell, World.size_drew]); omega))))
  have Bf' : Box w4 (w2.heap.size) _ := Box.call hb (by repeat (first | with_reducible assumption | with_reducible apply Box.set10 | with_reducible apply Box.set20 | with_reducible apply Box.set21 | with_reducible apply Box.set40 | with_reducible apply Box.set41 | with_reducible apply Box.set42 | with_reducible apply Box.set43 | with_reducible apply Box.set50 | with_reducible apply Box.set51 | with_reducible apply Box.set52 | with_reducible apply Box.set53 | with_reducible apply Box.set54 | with_reducible apply Box.drew | (with_reducible apply Box.newAt; (try simp only [World.size_alloc, World.size_setCell, World.size_drew]); done) | with_reducible apply Box.alloc | (with_reducible apply Box.other; case hne => ((try simp only [World.size_alloc, World.size_setCell, World.size_drew]); omega))))
  have hk' : Kept w.heap.size w w4 := Kept.step (by repeat (first | with_reducible exact hk | with_reducible exact Kept.refl _ | with_reducible refine Kept.alloc ?_ _ | with_reducible refine Kept.drew ?_ | with_reducible refine Kept.setCell ?_ (by simp only [World.size_alloc, World.size_setCell, World.size_drew]; omega) _)) hb
  clear hk
  clear Bwl1 Bwl2 Bwl3 Bwf Bw0 Bw1 Bw2 Bw3
  clear Bol1 Bol2 Bol3 Bof Bo0 Bo1
  clear Bfl1 Bfl2 Bfl3 Bff Bf0 Bf1
  clear Bw
  clear Bo
  clear Bf
  have Bw := Bw'
  clear Bw'
  have Bo := Bo'
  clear Bo'
  have Bf := Bf'
  clear Bf'
  have hk := hk'
  clear hk' hb
  have hz_w4 := hk.size
  have Bwc := Bw.cell
  have Bwl := Bw.lt
  have Bwf := Bw.free
  have Bwl1 : w.heap.size < w4.heap.size + 1 := by omega
  have Bwl2 : w.heap.size < w4.heap.size + 1 + 1 := by omega
  have Bwl3 : w.heap.size < w4.heap.size + 1 + 1 + 1 := by omega
  have Bw0 := Bwc 0 _ rfl
  have Bw1 := Bwc 1 _ rfl
  have Bw2 := Bwc 2 _ rfl
  have Bw3 := Bwc 3 _ rfl
  clear Bwc
  have Boc := Bo.cell
  have Bol := Bo.lt
  have Bof := Bo.free
  have Bol1 : w.heap.size + 1 < w4.heap.size + 1 := by omega
  have Bol2 : w.heap.size + 1 < w4.heap.size + 1 + 1 := by omega
  have Bol3 : w.heap.size + 1 < w4.heap.size + 1 + 1 + 1 := by omega
  have Bo0 := Boc 0 _ rfl
  have Bo1 := Boc 1 _ rfl
  clear Boc
  have Bfc := Bf.cell
  have Bfl := Bf.lt
  have Bff := Bf.free
  have Bfl1 : w2.heap.size < w4.heap.size + 1 := by omega
  have Bfl2 : w2.heap.size < w4.heap.size + 1 + 1 := by omega
  have Bfl3 : w2.heap.size < w4.heap.size + 1 + 1 + 1 := by omega
  have Bf0 := Bfc 0 _ rfl
  have Bf1 := Bfc 1 _ rfl
  clear Bfc
  go_wp2_with fail
  (with_reducible refine (Add_at (IsBits.of hF) (IsBits.val u64_zero (isU64_mk (by decide +kernel))) _).mono ?_)
  rintro e w5 ⟨rfl, hb⟩
  have Bw' : Box w5 (w.heap.size) _ := Box.call hb (by repeat (first | with_reducible assumption | with_reducible apply Box.set10 | with_reducible apply Box.set20 | with_reducible apply Box.set21 | with_reducible apply Box.set40 | with_reducible apply Box.set41 | with_reducible apply Box.set42 | with_reducible apply Box.set43 | with_reducible apply Box.set50 | with_reducible apply Box.set51 | with_reducible apply Box.set52 | with_reducible apply Box.set53 | with_reducible apply Box.set54 | with_reducible apply Box.drew | (with_reducible apply Box.newAt; (try simp only [World.size_alloc, World.size_setCell, World.size_drew]); done) | with_reducible apply Box.alloc | (with_reducible apply Box.other; case hne => ((try simp only [World.size_alloc, World.size_setCell, World.size_drew]); omega))))
  have Bo' : Box w5 (w.heap.size + 1) _ := Box.call hb (by repeat (first | with_reducible assumption | with_reducible apply Box.set10 | with_reducible apply Box.set20 | with_reducible apply Box.set21 | with_reducible apply Box.set40 | with_reducible apply Box.set41 | with_reducible apply Box.set42 | with_reducible apply Box.set43 | with_reducible apply Box.set50 | with_reducible apply Box.set51 | with_reducible apply Box.set52 | with_reducible apply Box.set53 | with_reducible apply Box.set54 | with_reducible apply Box.drew | (with_reducible apply Box.newAt; (try simp only [World.size_alloc, World.size_setCell, World.size_drew]); done) | with_reducible apply Box.alloc | (with_reducible apply Box.other; case hne => ((try simp only [World.size_alloc, World.size_setCell, World.size_drew]); omega))))
  have Bf' : Box w5 (w2.heap.size) _ := Box.call hb (by repeat (first | with_reducible assumption | with_reducible apply Box.set10 | with_reducible apply Box.set20 | with_reducible apply Box.set21 | with_reducible apply Box.set40 | with_reducible apply Box.set41 | with_reducible apply Box.set42 | with_reducible apply Box.set43 | with_reducible apply Box.set50 | with_reducible apply Box.set51 | with_reducible apply Box.set52 | with_reducible apply Box.set53 | with_reducible apply Box.set54 | with_reducible apply Box.drew | (with_reducible apply Box.newAt; (try simp only [World.size_alloc, World.size_setCell, World.size_drew]); done) | with_reducible apply Box.alloc | (with_reducible apply Box.other; case hne => ((try simp only [World.size_alloc, World.size_setCell, World.size_drew]); omega))))
  have hk' : Kept w.heap.size w w5 := Kept.step (by repeat (first | with_reducible exact hk | with_reducible exact Kept.refl _ | with_reducible refine Kept.alloc ?_ _ | with_reducible refine Kept.drew ?_ | with_reducible refine Kept.setCell ?_ (by simp only [World.size_alloc, World.size_setCell, World.size_drew]; omega) _)) hb
  clear hk
  clear Bwl1 Bwl2 Bwl3 Bwf Bw0 Bw1 Bw2 Bw3
  clear Bol1 Bol2 Bol3 Bof Bo0 Bo1
  clear Bfl1 Bfl2 Bfl3 Bff Bf0 Bf1
  clear Bw
  clear Bo
  clear Bf
  have Bw := Bw'
  clear Bw'
  have Bo := Bo'
  clear Bo'
  have Bf := Bf'
  clear Bf'
  have hk := hk'
  clear hk' hb
  have hz_w5 := hk.size
  have Bwc := Bw.cell
  have Bwl := Bw.lt
  have Bwf := Bw.free
  have Bwl1 : w.heap.size < w5.heap.size + 1 := by omega
  have Bwl2 : w.heap.size < w5.heap.size + 1 + 1 := by omega
  have Bwl3 : w.heap.size < w5.heap.size + 1 + 1 + 1 := by omega
  have Bw0 := Bwc 0 _ rfl
  have Bw1 := Bwc 1 _ rfl
  have Bw2 := Bwc 2 _ rfl
  have Bw3 := Bwc 3 _ rfl
  clear Bwc
  have Boc := Bo.cell
  have Bol := Bo.lt
  have Bof := Bo.free
  have Bol1 : w.heap.size + 1 < w5.heap.size + 1 := by omega
  have Bol2 : w.heap.size + 1 < w5.heap.size + 1 + 1 := by omega
  have Bol3 : w.heap.size + 1 < w5.heap.size + 1 + 1 + 1 := by omega
  have Bo0 := Boc 0 _ rfl
  have Bo1 := Boc 1 _ rfl
  clear Boc
  have Bfc := Bf.cell
  have Bfl := Bf.lt
  have Bff := Bf.free
  have Bfl1 : w2.heap.size < w5.heap.size + 1 := by omega
  have Bfl2 : w2.heap.size < w5.heap.size + 1 + 1 := by omega
  have Bfl3 : w2.heap.size < w5.heap.size + 1 + 1 + 1 := by omega
  have Bf0 := Bfc 0 _ rfl
  have Bf1 := Bfc 1 _ rfl
  clear Bfc
  go_wp2
  refine bodyPost_ret (v := .tuple #[bitsV (floorN X k + 1), .bool (restI X k != 0)]) (by simp [results, Tryz.results160, go_sem, Bo0, Bo1]) rfl ⟨by rw [HC.out, HM.out], ?_⟩
  refine Kept.below ?_; repeat (first | with_reducible exact hk | with_reducible exact Kept.refl _ | with_reducible refine Kept.alloc ?_ _ | with_reducible refine Kept.drew ?_ | with_reducible refine Kept.setCell ?_ (by simp only [World.size_alloc, World.size_setCell, World.size_drew]; omega) _)
set_option maxRecDepth 100000 in
set_option maxHeartbeats 4000000 in
theorem Cut_no {X : Nat} (hX : W256 X) {k m : Int} (k0 : 0 ≤ k) (k1 : k ≤ 127) (m0 : 0 ≤ m) (m1 : m ≤ 4) (neg : Bool) (h : upB X k m neg = false) (w : World) :
    Calls Tryz.prog 160 #[wideV X, .int .i64 k, .int .u8 m, .bool neg] w fun e w' => e = .returned (.tuple #[bitsV (cutN X k m neg), .bool (moreB X k)]) ∧ Below w.heap.size w w' := by
  have hk := Kept.refl w
  have f1 : loN (rightN X (256 - k)) = floorN X k := lo_small (floor_w hX k0 k1)
  have f2 := odd_at (floorN X k)
  have rr := restI_range X k
  have HM := Lib.hid (show (restI X k != 0) = moreB X k by unfold moreB; rw [Bool.eq_iff_iff]; simp)
  have hF := floor_w hX k0 k1
  have hF2 := floor_lt hX k0 k1
  have HC := Lib.hid (cut_no h)
  have f3 : nextB m neg (oddB (floorN X k)) (restI X k) = false := h
  clear h
  go_enter Tryz.func160, Tryz.ntmps160
  go_wp2_with fail
  (with_reducible refine (Known_any _ _).mono ?_)
  rintro e w' ⟨rfl, rfl⟩
  go_wp2_with fail
  (with_reducible refine (WideRight_at (IsWide.of hX) _ (by omega) (by omega) _).mono ?_)
  rintro e w1 ⟨rfl, hb⟩
  have Bw' : Box w1 (w.heap.size) _ := Box.call hb (by repeat (first | with_reducible assumption | with_reducible apply Box.set10 | with_reducible apply Box.set20 | with_reducible apply Box.set21 | with_reducible apply Box.set40 | with_reducible apply Box.set41 | with_reducible apply Box.set42 | with_reducible apply Box.set43 | with_reducible apply Box.set50 | with_reducible apply Box.set51 | with_reducible apply Box.set52 | with_reducible apply Box.set53 | with_reducible apply Box.set54 | with_reducible apply Box.drew | (with_reducible apply Box.newAt; (try simp only [World.size_alloc, World.size_setCell, World.size_drew]); done) | with_reducible apply Box.alloc | (with_reducible apply Box.other; case hne => ((try simp only [World.size_alloc, World.size_setCell, World.size_drew]); omega))))
  have Bo' : Box w1 (w.heap.size + 1) _ := Box.call hb (by repeat (first | with_reducible assumption | with_reducible apply Box.set10 | with_reducible apply Box.set20 | with_reducible apply Box.set21 | with_reducible apply Box.set40 | with_reducible apply Box.set41 | with_reducible apply Box.set42 | with_reducible apply Box.set43 | with_reducible apply Box.set50 | with_reducible apply Box.set51 | with_reducible apply Box.set52 | with_reducible apply Box.set53 | with_reducible apply Box.set54 | with_reducible apply Box.drew | (with_reducible apply Box.newAt; (try simp only [World.size_alloc, World.size_setCell, World.size_drew]); done) | with_reducible apply Box.alloc | (with_reducible apply Box.other; case hne => ((try simp only [World.size_alloc, World.size_setCell, World.size_drew]); omega))))
  have hk' : Kept w.heap.size w w1 := Kept.step (by repeat (first | with_reducible exact hk | with_reducible exact Kept.refl _ | with_reducible refine Kept.alloc ?_ _ | with_reducible refine Kept.drew ?_ | with_reducible refine Kept.setCell ?_ (by simp only [World.size_alloc, World.size_setCell, World.size_drew]; omega) _)) hb
  clear hk
  have Bw := Bw'
  clear Bw'
  have Bo := Bo'
  clear Bo'
  have hk := hk'
  clear hk' hb
  have hz_w1 := hk.size
  have Bwc := Bw.cell
  have Bwl := Bw.lt
  have Bwf := Bw.free
  have Bwl1 : w.heap.size < w1.heap.size + 1 := by omega
  have Bwl2 : w.heap.size < w1.heap.size + 1 + 1 := by omega
  have Bwl3 : w.heap.size < w1.heap.size + 1 + 1 + 1 := by omega
  have Bw0 := Bwc 0 _ rfl
  have Bw1 := Bwc 1 _ rfl
  have Bw2 := Bwc 2 _ rfl
  have Bw3 := Bwc 3 _ rfl
  clear Bwc
  have Boc := Bo.cell
  have Bol := Bo.lt
  have Bof := Bo.free
  have Bol1 : w.heap.size + 1 < w1.heap.size + 1 := by omega
  have Bol2 : w.heap.size + 1 < w1.heap.size + 1 + 1 := by omega
  have Bol3 : w.heap.size + 1 < w1.heap.size + 1 + 1 + 1 := by omega
  have Bo0 := Boc 0 _ rfl
  have Bo1 := Boc 1 _ rfl
  clear Boc
  go_wp2_with fail
  (with_reducible refine (Low_at (IsWide.of (right_w hX _)) _).mono ?_)
  rintro e w2 ⟨rfl, hb⟩
  have Bw' : Box w2 (w.heap.size) _ := Box.call hb (by repeat (first | with_reducible assumption | with_reducible apply Box.set10 | with_reducible apply Box.set20 | with_reducible apply Box.set21 | with_reducible apply Box.set40 | with_reducible apply Box.set41 | with_reducible apply Box.set42 | with_reducible apply Box.set43 | with_reducible apply Box.set50 | with_reducible apply Box.set51 | with_reducible apply Box.set52 | with_reducible apply Box.set53 | with_reducible apply Box.set54 | with_reducible apply Box.drew | (with_reducible apply Box.newAt; (try simp only [World.size_alloc, World.size_setCell, World.size_drew]); done) | with_reducible apply Box.alloc | (with_reducible apply Box.other; case hne => ((try simp only [World.size_alloc, World.size_setCell, World.size_drew]); omega))))
  have Bo' : Box w2 (w.heap.size + 1) _ := Box.call hb (by repeat (first | with_reducible assumption | with_reducible apply Box.set10 | with_reducible apply Box.set20 | with_reducible apply Box.set21 | with_reducible apply Box.set40 | with_reducible apply Box.set41 | with_reducible apply Box.set42 | with_reducible apply Box.set43 | with_reducible apply Box.set50 | with_reducible apply Box.set51 | with_reducible apply Box.set52 | with_reducible apply Box.set53 | with_reducible apply Box.set54 | with_reducible apply Box.drew | (with_reducible apply Box.newAt; (try simp only [World.size_alloc, World.size_setCell, World.size_drew]); done) | with_reducible apply Box.alloc | (with_reducible apply Box.other; case hne => ((try simp only [World.size_alloc, World.size_setCell, World.size_drew]); omega))))
  have hk' : Kept w.heap.size w w2 := Kept.step (by repeat (first | with_reducible exact hk | with_reducible exact Kept.refl _ | with_reducible refine Kept.alloc ?_ _ | with_reducible refine Kept.drew ?_ | with_reducible refine Kept.setCell ?_ (by simp only [World.size_alloc, World.size_setCell, World.size_drew]; omega) _)) hb
  clear hk
  clear Bwl1 Bwl2 Bwl3 Bwf Bw0 Bw1 Bw2 Bw3
  clear Bol1 Bol2 Bol3 Bof Bo0 Bo1
  clear Bw
  clear Bo
  have Bw := Bw'
  clear Bw'
  have Bo := Bo'
  clear Bo'
  have hk := hk'
  clear hk' hb
  have hz_w2 := hk.size
  have Bwc := Bw.cell
  have Bwl := Bw.lt
  have Bwf := Bw.free
  have Bwl1 : w.heap.size < w2.heap.size + 1 := by omega
  have Bwl2 : w.heap.size < w2.heap.size + 1 + 1 := by omega
  have Bwl3 : w.heap.size < w2.heap.size + 1 + 1 + 1 := by omega
  have Bw0 := Bwc 0 _ rfl
  have Bw1 := Bwc 1 _ rfl
  have Bw2 := Bwc 2 _ rfl
  have Bw3 := Bwc 3 _ rfl
  clear Bwc
  have Boc := Bo.cell
  have Bol := Bo.lt
  have Bof := Bo.free
  have Bol1 : w.heap.size + 1 < w2.heap.size + 1 := by omega
  have Bol2 : w.heap.size + 1 < w2.heap.size + 1 + 1 := by omega
  have Bol3 : w.heap.size + 1 < w2.heap.size + 1 + 1 + 1 := by omega
  have Bo0 := Boc 0 _ rfl
  have Bo1 := Boc 1 _ rfl
  clear Boc
  go_wp2_with fail
  (with_reducible refine (Rest_in hX k0 k1 _).mono ?_)
  rintro e w3 ⟨rfl, hb⟩
  have Bw' : Box w3 (w.heap.size) _ := Box.call hb (by repeat (first | with_reducible assumption | with_reducible apply Box.set10 | with_reducible apply Box.set20 | with_reducible apply Box.set21 | with_reducible apply Box.set40 | with_reducible apply Box.set41 | with_reducible apply Box.set42 | with_reducible apply Box.set43 | with_reducible apply Box.set50 | with_reducible apply Box.set51 | with_reducible apply Box.set52 | with_reducible apply Box.set53 | with_reducible apply Box.set54 | with_reducible apply Box.drew | (with_reducible apply Box.newAt; (try simp only [World.size_alloc, World.size_setCell, World.size_drew]); done) | with_reducible apply Box.alloc | (with_reducible apply Box.other; case hne => ((try simp only [World.size_alloc, World.size_setCell, World.size_drew]); omega))))
  have Bo' : Box w3 (w.heap.size + 1) _ := Box.call hb (by repeat (first | with_reducible assumption | with_reducible apply Box.set10 | with_reducible apply Box.set20 | with_reducible apply Box.set21 | with_reducible apply Box.set40 | with_reducible apply Box.set41 | with_reducible apply Box.set42 | with_reducible apply Box.set43 | with_reducible apply Box.set50 | with_reducible apply Box.set51 | with_reducible apply Box.set52 | with_reducible apply Box.set53 | with_reducible apply Box.set54 | with_reducible apply Box.drew | (with_reducible apply Box.newAt; (try simp only [World.size_alloc, World.size_setCell, World.size_drew]); done) | with_reducible apply Box.alloc | (with_reducible apply Box.other; case hne => ((try simp only [World.size_alloc, World.size_setCell, World.size_drew]); omega))))
  have Bf' : Box w3 (w2.heap.size) _ := Box.call hb (by repeat (first | with_reducible assumption | with_reducible apply Box.set10 | with_reducible apply Box.set20 | with_reducible apply Box.set21 | with_reducible apply Box.set40 | with_reducible apply Box.set41 | with_reducible apply Box.set42 | with_reducible apply Box.set43 | with_reducible apply Box.set50 | with_reducible apply Box.set51 | with_reducible apply Box.set52 | with_reducible apply Box.set53 | with_reducible apply Box.set54 | with_reducible apply Box.drew | (with_reducible apply Box.newAt; (try simp only [World.size_alloc, World.size_setCell, World.size_drew]); done) | with_reducible apply Box.alloc | (with_reducible apply Box.other; case hne => ((try simp only [World.size_alloc, World.size_setCell, World.size_drew]); omega))))
  have hk' : Kept w.heap.size w w3 := Kept.step (by repeat (first | with_reducible exact hk | with_reducible exact Kept.refl _ | with_reducible refine Kept.alloc ?_ _ | with_reducible refine Kept.drew ?_ | with_reducible refine Kept.setCell ?_ (by simp only [World.size_alloc, World.size_setCell, World.size_drew]; omega) _)) hb
  clear hk
  clear Bwl1 Bwl2 Bwl3 Bwf Bw0 Bw1 Bw2 Bw3
  clear Bol1 Bol2 Bol3 Bof Bo0 Bo1
  clear Bw
  clear Bo
  have Bw := Bw'
  clear Bw'
  have Bo := Bo'
  clear Bo'
  have Bf := Bf'
  clear Bf'
  have hk := hk'
  clear hk' hb
  have hz_w3 := hk.size
  have Bwc := Bw.cell
  have Bwl := Bw.lt
  have Bwf := Bw.free
  have Bwl1 : w.heap.size < w3.heap.size + 1 := by omega
  have Bwl2 : w.heap.size < w3.heap.size + 1 + 1 := by omega
  have Bwl3 : w.heap.size < w3.heap.size + 1 + 1 + 1 := by omega
  have Bw0 := Bwc 0 _ rfl
  have Bw1 := Bwc 1 _ rfl
  have Bw2 := Bwc 2 _ rfl
  have Bw3 := Bwc 3 _ rfl
  clear Bwc
  have Boc := Bo.cell
  have Bol := Bo.lt
  have Bof := Bo.free
  have Bol1 : w.heap.size + 1 < w3.heap.size + 1 := by omega
  have Bol2 : w.heap.size + 1 < w3.heap.size + 1 + 1 := by omega
  have Bol3 : w.heap.size + 1 < w3.heap.size + 1 + 1 + 1 := by omega
  have Bo0 := Boc 0 _ rfl
  have Bo1 := Boc 1 _ rfl
  clear Boc
  have Bfc := Bf.cell
  have Bfl := Bf.lt
  have Bff := Bf.free
  have Bfl1 : w2.heap.size < w3.heap.size + 1 := by omega
  have Bfl2 : w2.heap.size < w3.heap.size + 1 + 1 := by omega
  have Bfl3 : w2.heap.size < w3.heap.size + 1 + 1 + 1 := by omega
  have Bf0 := Bfc 0 _ rfl
  have Bf1 := Bfc 1 _ rfl
  clear Bfc
  go_wp2_with fail
  (with_reducible refine (Next_any _ _ _ _ m0 rr.1 _).mono ?_)
  rintro e w4 ⟨rfl, hb⟩
  have Bw' : Box w4 (w.heap.size) _ := Box.call hb (by repeat (first | with_reducible assumption | with_reducible apply Box.set10 | with_reducible apply Box.set20 | with_reducible apply Box.set21 | with_reducible apply Box.set40 | with_reducible apply Box.set41 | with_reducible apply Box.set42 | with_reducible apply Box.set43 | with_reducible apply Box.set50 | with_reducible apply Box.set51 | with_reducible apply Box.set52 | with_reducible apply Box.set53 | with_reducible apply Box.set54 | with_reducible apply Box.drew | (with_reducible apply Box.newAt; (try simp only [World.size_alloc, World.size_setCell, World.size_drew]); done) | with_reducible apply Box.alloc | (with_reducible apply Box.other; case hne => ((try simp only [World.size_alloc, World.size_setCell, World.size_drew]); omega))))
  have Bo' : Box w4 (w.heap.size + 1) _ := Box.call hb (by repeat (first | with_reducible assumption | with_reducible apply Box.set10 | with_reducible apply Box.set20 | with_reducible apply Box.set21 | with_reducible apply Box.set40 | with_reducible apply Box.set41 | with_reducible apply Box.set42 | with_reducible apply Box.set43 | with_reducible apply Box.set50 | with_reducible apply Box.set51 | with_reducible apply Box.set52 | with_reducible apply Box.set53 | with_reducible apply Box.set54 | with_reducible apply Box.drew | (with_reducible apply Box.newAt; (try simp only [World.size_alloc, World.size_setCell, World.size_drew]); done) | with_reducible apply Box.alloc | (with_reducible apply Box.other; case hne => ((try simp only [World.size_alloc, World.size_setCell, World.size_drew]); omega))))
  have Bf' : Box w4 (w2.heap.size) _ := Box.call hb (by repeat (first | with_reducible assumption | with_reducible apply Box.set10 | with_reducible apply Box.set20 | with_reducible apply Box.set21 | with_reducible apply Box.set40 | with_reducible apply Box.set41 | with_reducible apply Box.set42 | with_reducible apply Box.set43 | with_reducible apply Box.set50 | with_reducible apply Box.set51 | with_reducible apply Box.set52 | with_reducible apply Box.set53 | with_reducible apply Box.set54 | with_reducible apply Box.drew | (with_reducible apply Box.newAt; (try simp only [World.size_alloc, World.size_setCell, World.size_drew]); done) | with_reducible apply Box.alloc | (with_reducible apply Box.other; case hne => ((try simp only [World.size_alloc, World.size_setCell, World.size_drew]); omega))))
  have hk' : Kept w.heap.size w w4 := Kept.step (by repeat (first | with_reducible exact hk | with_reducible exact Kept.refl _ | with_reducible refine Kept.alloc ?_ _ | with_reducible refine Kept.drew ?_ | with_reducible refine Kept.setCell ?_ (by simp only [World.size_alloc, World.size_setCell, World.size_drew]; omega) _)) hb
  clear hk
  clear Bwl1 Bwl2 Bwl3 Bwf Bw0 Bw1 Bw2 Bw3
  clear Bol1 Bol2 Bol3 Bof Bo0 Bo1
  clear Bfl1 Bfl2 Bfl3 Bff Bf0 Bf1
  clear Bw
  clear Bo
  clear Bf
  have Bw := Bw'
  clear Bw'
  have Bo := Bo'
  clear Bo'
  have Bf := Bf'
  clear Bf'
  have hk := hk'
  clear hk' hb
  have hz_w4 := hk.size
  have Bwc := Bw.cell
  have Bwl := Bw.lt
  have Bwf := Bw.free
  have Bwl1 : w.heap.size < w4.heap.size + 1 := by omega
  have Bwl2 : w.heap.size < w4.heap.size + 1 + 1 := by omega
  have Bwl3 : w.heap.size < w4.heap.size + 1 + 1 + 1 := by omega
  have Bw0 := Bwc 0 _ rfl
  have Bw1 := Bwc 1 _ rfl
  have Bw2 := Bwc 2 _ rfl
  have Bw3 := Bwc 3 _ rfl
  clear Bwc
  have Boc := Bo.cell
  have Bol := Bo.lt
  have Bof := Bo.free
  have Bol1 : w.heap.size + 1 < w4.heap.size + 1 := by omega
  have Bol2 : w.heap.size + 1 < w4.heap.size + 1 + 1 := by omega
  have Bol3 : w.heap.size + 1 < w4.heap.size + 1 + 1 + 1 := by omega
  have Bo0 := Boc 0 _ rfl
  have Bo1 := Boc 1 _ rfl
  clear Boc
  have Bfc := Bf.cell
  have Bfl := Bf.lt
  have Bff := Bf.free
  have Bfl1 : w2.heap.size < w4.heap.size + 1 := by omega
  have Bfl2 : w2.heap.size < w4.heap.size + 1 + 1 := by omega
  have Bfl3 : w2.heap.size < w4.heap.size + 1 + 1 + 1 := by omega
  have Bf0 := Bfc 0 _ rfl
  have Bf1 := Bfc 1 _ rfl
  clear Bfc
  go_wp2
  refine bodyPost_ret (v := .tuple #[bitsV (floorN X k), .bool (restI X k != 0)]) (by simp [results, Tryz.results160, go_sem, Bo0, Bo1]) rfl ⟨by rw [HC.out, HM.out], ?_⟩
  refine Kept.below ?_; repeat (first | with_reducible exact hk | with_reducible exact Kept.refl _ | with_reducible refine Kept.alloc ?_ _ | with_reducible refine Kept.drew ?_ | with_reducible refine Kept.setCell ?_ (by simp only [World.size_alloc, World.size_setCell, World.size_drew]; omega) _)
set_option maxRecDepth 100000 in
theorem Cut_out (a0 a1 a2 a3 : Int) {k m : Int} (h : k < 0 ∨ 127 < k ∨ 4 < m) (neg : Bool) (w : World) :
    Calls Tryz.prog 160 #[.agg #[.int .u64 a0, .int .u64 a1, .int .u64 a2, .int .u64 a3], .int .i64 k, .int .u8 m, .bool neg] w fun e w' => e = .returned (.tuple #[.agg #[.int .u64 0, .int .u64 0], .bool false]) ∧ Below w.heap.size w w' := by
  have hk := Kept.refl w
  by_cases h1 : k < 0
  · clear h
    go_enter Tryz.func160, Tryz.ntmps160
    go_wp2
    refine bodyPost_ret (v := .tuple #[.agg #[.int .u64 0, .int .u64 0], .bool false]) (by simp [results, Tryz.results160, go_sem, ]) rfl ⟨rfl, ?_⟩
    refine Kept.below ?_; repeat (first | with_reducible exact hk | with_reducible exact Kept.refl _ | with_reducible refine Kept.alloc ?_ _ | with_reducible refine Kept.drew ?_ | with_reducible refine Kept.setCell ?_ (by simp only [World.size_alloc, World.size_setCell, World.size_drew]; omega) _)
  · by_cases h2 : 127 < k
    · clear h
      go_enter Tryz.func160, Tryz.ntmps160
      go_wp2
      refine bodyPost_ret (v := .tuple #[.agg #[.int .u64 0, .int .u64 0], .bool false]) (by simp [results, Tryz.results160, go_sem, ]) rfl ⟨rfl, ?_⟩
      refine Kept.below ?_; repeat (first | with_reducible exact hk | with_reducible exact Kept.refl _ | with_reducible refine Kept.alloc ?_ _ | with_reducible refine Kept.drew ?_ | with_reducible refine Kept.setCell ?_ (by simp only [World.size_alloc, World.size_setCell, World.size_drew]; omega) _)
    · have h3 : ¬ m ≤ 4 := by omega
      have h4 : 4 < m := by omega
      clear h
      go_enter Tryz.func160, Tryz.ntmps160
      go_wp2_with fail
      (with_reducible refine (Calls.known false (decide_eq_false (by omega)) (Known_any m _)).mono ?_)
      rintro e w' ⟨rfl, rfl⟩
      go_wp2
      refine bodyPost_ret (v := .tuple #[.agg #[.int .u64 0, .int .u64 0], .bool false]) (by simp [results, Tryz.results160, go_sem, ]) rfl ⟨rfl, ?_⟩
      refine Kept.below ?_; repeat (first | with_reducible exact hk | with_reducible exact Kept.refl _ | with_reducible refine Kept.alloc ?_ _ | with_reducible refine Kept.drew ?_ | with_reducible refine Kept.setCell ?_ (by simp only [World.size_alloc, World.size_setCell, World.size_drew]; omega) _)
/-- Cut and Rest of whatever comes -/
def cutV (X : Nat) (k m : Int) (neg : Bool) : Nat := if 0 ≤ k ∧ k ≤ 127 ∧ m ≤ 4 then cutN X k m neg else 0
def moreV (X : Nat) (k m : Int) : Bool := decide (0 ≤ k ∧ k ≤ 127 ∧ m ≤ 4) && moreB X k
theorem Cut_in {X : Nat} (hX : W256 X) {k m : Int} (k0 : 0 ≤ k) (k1 : k ≤ 127) (m0 : 0 ≤ m) (m1 : m ≤ 4) (neg : Bool) (w : World) :
    Calls Tryz.prog 160 #[wideV X, .int .i64 k, .int .u8 m, .bool neg] w fun e w' => e = .returned (.tuple #[bitsV (cutN X k m neg), .bool (moreB X k)]) ∧ Below w.heap.size w w' := by
  cases h : upB X k m neg with
  | true => exact Cut_up hX k0 k1 m0 m1 neg h w
  | false => exact Cut_no hX k0 k1 m0 m1 neg h w
end Go.Proofs.YtpfoifflfgiaoaaGreatDoor
