/- The walk of WordBits. -/
import Derived.Test.YtohlhmicolnmbaaLaw01
namespace Go.Proofs.Ytohlhmicolnmbaa
open Go.RowKit

def lowN (A k : Nat) : Nat := A % 2 ^ k
def powN (k : Nat) : Nat := 2 ^ k % 2 ^ 128
theorem low_w (A : Nat) {k : Nat} (h : k ≤ 128) : W128 (lowN A k) := ⟨by
  have := Nat.mod_lt A (Nat.two_pow_pos k)
  have h2 : 2 ^ k ≤ 2 ^ 128 := Nat.pow_le_pow_right (by omega) h
  unfold lowN; omega⟩
theorem pow_w (k : Nat) : W128 (powN k) := ⟨Nat.mod_lt _ (by omega)⟩
theorem low_bit (A : Nat) {k : Nat} (h : k < 128) (hb : bitZ A (k : Int) = true) : add128 (lowN A k) (powN k) = lowN A (k + 1) ∧ carry128 (lowN A k) (powN k) = false := by
  have e : A % 2 ^ (k + 1) = 2 ^ k + A % 2 ^ k := by
    unfold bitZ at hb
    simp only [Bool.and_eq_true, Int.toNat_natCast, Nat.testBit_eq_decide_div_mod_eq, decide_eq_true_eq] at hb
    rw [Nat.pow_succ, Nat.mod_mul, hb.2, Nat.mul_one, Nat.add_comm]
  have hm := Nat.mod_lt A (Nat.two_pow_pos k)
  have h2 : 2 ^ k < 2 ^ 128 := Nat.pow_lt_pow_right (by omega) h
  have h3 : 2 ^ (k + 1) ≤ 2 ^ 128 := Nat.pow_le_pow_right (by omega) (by omega)
  rw [Nat.pow_succ] at h3
  unfold lowN powN add128 carry128
  rw [e, Nat.mod_eq_of_lt h2, Nat.mod_eq_of_lt (by omega)]
  exact ⟨by omega, decide_eq_false (by omega)⟩
theorem low_no (A : Nat) {k : Nat} (hb : bitZ A (k : Int) = false) : lowN A k = lowN A (k + 1) := by
  unfold bitZ at hb
  rw [decide_eq_true (by omega : (0 : Int) ≤ k), Bool.true_and, Int.toNat_natCast, Nat.testBit_eq_decide_div_mod_eq, decide_eq_false_iff_not] at hb
  unfold lowN
  rw [Nat.pow_succ, Nat.mod_mul, show A / 2 ^ k % 2 = 0 by omega]; omega
theorem pow_next (k : Nat) : add128 (powN k) (powN k) = powN (k + 1) := by
  unfold add128 powN; rw [Nat.pow_succ]; omega
theorem low_all {A : Nat} (h : W128 A) : lowN A 128 = A := Nat.mod_eq_of_lt h.lt
theorem bit_far {A : Nat} (h : W128 A) {i : Int} (k : i < 0 ∨ 128 ≤ i) : bitZ A i = false := by
  unfold bitZ
  rcases k with k | k
  · rw [decide_eq_false (by omega)]; rfl
  · rw [Nat.testBit_lt_two_pow (Nat.lt_of_lt_of_le h.lt (Nat.pow_le_pow_right (by omega) (by omega))), Bool.and_false]
theorem limb_low0 (A : Nat) : lowN A 0 = 0 := by unfold lowN; omega
theorem limb1_zero : limb 1 0 = 0 := by unfold limb; rfl
theorem limb0_zero : limb 0 0 = 0 := by unfold limb; rfl
theorem limb1_one : limb 1 (powN 0) = 0 := by unfold limb powN; rfl
theorem limb0_one : limb 0 (powN 0) = 1 := by unfold limb powN; rfl

/-- what a round starts from, and leaves -/
def BitsAt (A : Nat) (w : World) (k : Nat) (wr : World) : Prop :=
  Kept w.heap.size w wr ∧ Box wr w.heap.size #[.int .u64 (limb 1 A), .int .u64 (limb 0 A)] ∧ Box wr (w.heap.size + 1) #[.int .u64 (limb 1 (lowN A k)), .int .u64 (limb 0 (lowN A k))] ∧
    Box wr (w.heap.size + 1 + 1) #[.int .u64 (limb 1 (powN k)), .int .u64 (limb 0 (powN k))]

set_option maxRecDepth 100000 in
set_option maxHeartbeats 4000000 in
theorem WordBits_walk {A : Nat} (hA : W128 A) (far : Int) (w : World) :
    Calls Try.prog 9 #[bitsV A, .int .i64 far] w fun e w' => e = .returned (.bool true) ∧ Below w.heap.size w w' := by
  have hk := Kept.refl w
  go_enter Try.func9, Try.ntmps9
  go_wp2
  go_loopw [7] (fun i wr => ∃ k : Nat, k ≤ 128 ∧ i = .int .i64 k ∧ BitsAt A w k wr) (fun i _ => 128 - (intOf i).toNat)
  case atStart =>
    have z : ∀ wr vs, Box wr (w.heap.size + 1 + 1) vs → vs = #[.int .u64 0, .int .u64 1] → Box wr (w.heap.size + 1 + 1) #[.int .u64 (limb 1 (powN 0)), .int .u64 (limb 0 (powN 0))] := fun wr vs h e => by rw [limb1_one, limb0_one]; exact e ▸ h
    have y : ∀ wr vs, Box wr (w.heap.size + 1) vs → vs = #[.int .u64 0, .int .u64 0] → Box wr (w.heap.size + 1) #[.int .u64 (limb 1 (lowN A 0)), .int .u64 (limb 0 (lowN A 0))] := fun wr vs h e => by rw [limb_low0, limb1_zero, limb0_zero]; exact e ▸ h
    refine ⟨0, by omega, rfl, (by repeat (first | with_reducible exact hk | with_reducible exact Kept.refl _ | with_reducible refine Kept.alloc ?_ _ | with_reducible refine Kept.drew ?_ | with_reducible refine Kept.setCell ?_ (by simp only [World.size_alloc, World.size_setCell, World.size_drew]; omega) _)), (by repeat (first | with_reducible assumption | with_reducible apply Box.set10 | with_reducible apply Box.set20 | with_reducible apply Box.set21 | with_reducible apply Box.set40 | with_reducible apply Box.set41 | with_reducible apply Box.set42 | with_reducible apply Box.set43 | with_reducible apply Box.set50 | with_reducible apply Box.set51 | with_reducible apply Box.set52 | with_reducible apply Box.set53 | with_reducible apply Box.set54 | with_reducible apply Box.drew | (with_reducible apply Box.newAt; (try simp only [World.size_alloc, World.size_setCell, World.size_drew]); done) | with_reducible apply Box.alloc | (with_reducible apply Box.other; case hne => ((try simp only [World.size_alloc, World.size_setCell, World.size_drew]); omega)))), y _ _ (by repeat (first | with_reducible assumption | with_reducible apply Box.set10 | with_reducible apply Box.set20 | with_reducible apply Box.set21 | with_reducible apply Box.set40 | with_reducible apply Box.set41 | with_reducible apply Box.set42 | with_reducible apply Box.set43 | with_reducible apply Box.set50 | with_reducible apply Box.set51 | with_reducible apply Box.set52 | with_reducible apply Box.set53 | with_reducible apply Box.set54 | with_reducible apply Box.drew | (with_reducible apply Box.newAt; (try simp only [World.size_alloc, World.size_setCell, World.size_drew]); done) | with_reducible apply Box.alloc | (with_reducible apply Box.other; case hne => ((try simp only [World.size_alloc, World.size_setCell, World.size_drew]); omega)))) rfl, z _ _ (by repeat (first | with_reducible assumption | with_reducible apply Box.set10 | with_reducible apply Box.set20 | with_reducible apply Box.set21 | with_reducible apply Box.set40 | with_reducible apply Box.set41 | with_reducible apply Box.set42 | with_reducible apply Box.set43 | with_reducible apply Box.set50 | with_reducible apply Box.set51 | with_reducible apply Box.set52 | with_reducible apply Box.set53 | with_reducible apply Box.set54 | with_reducible apply Box.drew | (with_reducible apply Box.newAt; (try simp only [World.size_alloc, World.size_setCell, World.size_drew]); done) | with_reducible apply Box.alloc | (with_reducible apply Box.other; case hne => ((try simp only [World.size_alloc, World.size_setCell, World.size_drew]); omega)))) rfl⟩
  case round =>
    obtain ⟨k, hk128, rfl, R⟩ := hrel
    obtain ⟨hk, Ba, Bs, Bo⟩ := R
    by_cases hlt : k < 128
    · have hn := pow_next k
      cases hb : bitZ A (k : Int)
      · have hl := low_no A hb
        have HL := Lib.hid hl
        clear hl
        have Bac := Ba.cell
        have Bal := Ba.lt
        have Baf := Ba.free
        have Bal1 : w.heap.size < wr.heap.size + 1 := by omega
        have Bal2 : w.heap.size < wr.heap.size + 1 + 1 := by omega
        have Bal3 : w.heap.size < wr.heap.size + 1 + 1 + 1 := by omega
        have Ba0 := Bac 0 _ rfl
        have Ba1 := Bac 1 _ rfl
        clear Bac
        have Bsc := Bs.cell
        have Bsl := Bs.lt
        have Bsf := Bs.free
        have Bsl1 : w.heap.size + 1 < wr.heap.size + 1 := by omega
        have Bsl2 : w.heap.size + 1 < wr.heap.size + 1 + 1 := by omega
        have Bsl3 : w.heap.size + 1 < wr.heap.size + 1 + 1 + 1 := by omega
        have Bs0 := Bsc 0 _ rfl
        have Bs1 := Bsc 1 _ rfl
        clear Bsc
        have Boc := Bo.cell
        have Bol := Bo.lt
        have Bof := Bo.free
        have Bol1 : w.heap.size + 1 + 1 < wr.heap.size + 1 := by omega
        have Bol2 : w.heap.size + 1 + 1 < wr.heap.size + 1 + 1 := by omega
        have Bol3 : w.heap.size + 1 + 1 < wr.heap.size + 1 + 1 + 1 := by omega
        have Bo0 := Boc 0 _ rfl
        have Bo1 := Boc 1 _ rfl
        clear Boc
        go_wp2_with fail
        (with_reducible refine (Bit_at (IsBits.of hA) _ _).mono ?_)
        rintro e w1 ⟨rfl, hb⟩
        have Ba' : Box w1 (w.heap.size) _ := Box.call hb (by repeat (first | with_reducible assumption | with_reducible apply Box.set10 | with_reducible apply Box.set20 | with_reducible apply Box.set21 | with_reducible apply Box.set40 | with_reducible apply Box.set41 | with_reducible apply Box.set42 | with_reducible apply Box.set43 | with_reducible apply Box.set50 | with_reducible apply Box.set51 | with_reducible apply Box.set52 | with_reducible apply Box.set53 | with_reducible apply Box.set54 | with_reducible apply Box.drew | (with_reducible apply Box.newAt; (try simp only [World.size_alloc, World.size_setCell, World.size_drew]); done) | with_reducible apply Box.alloc | (with_reducible apply Box.other; case hne => ((try simp only [World.size_alloc, World.size_setCell, World.size_drew]); omega))))
        have Bs' : Box w1 (w.heap.size + 1) _ := Box.call hb (by repeat (first | with_reducible assumption | with_reducible apply Box.set10 | with_reducible apply Box.set20 | with_reducible apply Box.set21 | with_reducible apply Box.set40 | with_reducible apply Box.set41 | with_reducible apply Box.set42 | with_reducible apply Box.set43 | with_reducible apply Box.set50 | with_reducible apply Box.set51 | with_reducible apply Box.set52 | with_reducible apply Box.set53 | with_reducible apply Box.set54 | with_reducible apply Box.drew | (with_reducible apply Box.newAt; (try simp only [World.size_alloc, World.size_setCell, World.size_drew]); done) | with_reducible apply Box.alloc | (with_reducible apply Box.other; case hne => ((try simp only [World.size_alloc, World.size_setCell, World.size_drew]); omega))))
        have Bo' : Box w1 (w.heap.size + 1 + 1) _ := Box.call hb (by repeat (first | with_reducible assumption | with_reducible apply Box.set10 | with_reducible apply Box.set20 | with_reducible apply Box.set21 | with_reducible apply Box.set40 | with_reducible apply Box.set41 | with_reducible apply Box.set42 | with_reducible apply Box.set43 | with_reducible apply Box.set50 | with_reducible apply Box.set51 | with_reducible apply Box.set52 | with_reducible apply Box.set53 | with_reducible apply Box.set54 | with_reducible apply Box.drew | (with_reducible apply Box.newAt; (try simp only [World.size_alloc, World.size_setCell, World.size_drew]); done) | with_reducible apply Box.alloc | (with_reducible apply Box.other; case hne => ((try simp only [World.size_alloc, World.size_setCell, World.size_drew]); omega))))
        have hk' : Kept w.heap.size w w1 := Kept.step (by repeat (first | with_reducible exact hk | with_reducible exact Kept.refl _ | with_reducible refine Kept.alloc ?_ _ | with_reducible refine Kept.drew ?_ | with_reducible refine Kept.setCell ?_ (by simp only [World.size_alloc, World.size_setCell, World.size_drew]; omega) _)) hb
        clear hk
        clear Bal1 Bal2 Bal3 Baf Ba0 Ba1
        clear Bsl1 Bsl2 Bsl3 Bsf Bs0 Bs1
        clear Bol1 Bol2 Bol3 Bof Bo0 Bo1
        clear Ba
        clear Bs
        clear Bo
        have Ba := Ba'
        clear Ba'
        have Bs := Bs'
        clear Bs'
        have Bo := Bo'
        clear Bo'
        have hk := hk'
        clear hk' hb
        have hz_w1 := hk.size
        have Bac := Ba.cell
        have Bal := Ba.lt
        have Baf := Ba.free
        have Bal1 : w.heap.size < w1.heap.size + 1 := by omega
        have Bal2 : w.heap.size < w1.heap.size + 1 + 1 := by omega
        have Bal3 : w.heap.size < w1.heap.size + 1 + 1 + 1 := by omega
        have Ba0 := Bac 0 _ rfl
        have Ba1 := Bac 1 _ rfl
        clear Bac
        have Bsc := Bs.cell
        have Bsl := Bs.lt
        have Bsf := Bs.free
        have Bsl1 : w.heap.size + 1 < w1.heap.size + 1 := by omega
        have Bsl2 : w.heap.size + 1 < w1.heap.size + 1 + 1 := by omega
        have Bsl3 : w.heap.size + 1 < w1.heap.size + 1 + 1 + 1 := by omega
        have Bs0 := Bsc 0 _ rfl
        have Bs1 := Bsc 1 _ rfl
        clear Bsc
        have Boc := Bo.cell
        have Bol := Bo.lt
        have Bof := Bo.free
        have Bol1 : w.heap.size + 1 + 1 < w1.heap.size + 1 := by omega
        have Bol2 : w.heap.size + 1 + 1 < w1.heap.size + 1 + 1 := by omega
        have Bol3 : w.heap.size + 1 + 1 < w1.heap.size + 1 + 1 + 1 := by omega
        have Bo0 := Boc 0 _ rfl
        have Bo1 := Boc 1 _ rfl
        clear Boc
        go_wp2_with fail
        (with_reducible refine (Add_at (IsBits.of (pow_w _)) (IsBits.of (pow_w _)) _).mono ?_)
        rintro e w2 ⟨rfl, hb⟩
        have Ba' : Box w2 (w.heap.size) _ := Box.call hb (by repeat (first | with_reducible assumption | with_reducible apply Box.set10 | with_reducible apply Box.set20 | with_reducible apply Box.set21 | with_reducible apply Box.set40 | with_reducible apply Box.set41 | with_reducible apply Box.set42 | with_reducible apply Box.set43 | with_reducible apply Box.set50 | with_reducible apply Box.set51 | with_reducible apply Box.set52 | with_reducible apply Box.set53 | with_reducible apply Box.set54 | with_reducible apply Box.drew | (with_reducible apply Box.newAt; (try simp only [World.size_alloc, World.size_setCell, World.size_drew]); done) | with_reducible apply Box.alloc | (with_reducible apply Box.other; case hne => ((try simp only [World.size_alloc, World.size_setCell, World.size_drew]); omega))))
        have Bs' : Box w2 (w.heap.size + 1) _ := Box.call hb (by repeat (first | with_reducible assumption | with_reducible apply Box.set10 | with_reducible apply Box.set20 | with_reducible apply Box.set21 | with_reducible apply Box.set40 | with_reducible apply Box.set41 | with_reducible apply Box.set42 | with_reducible apply Box.set43 | with_reducible apply Box.set50 | with_reducible apply Box.set51 | with_reducible apply Box.set52 | with_reducible apply Box.set53 | with_reducible apply Box.set54 | with_reducible apply Box.drew | (with_reducible apply Box.newAt; (try simp only [World.size_alloc, World.size_setCell, World.size_drew]); done) | with_reducible apply Box.alloc | (with_reducible apply Box.other; case hne => ((try simp only [World.size_alloc, World.size_setCell, World.size_drew]); omega))))
        have Bo' : Box w2 (w.heap.size + 1 + 1) _ := Box.call hb (by repeat (first | with_reducible assumption | with_reducible apply Box.set10 | with_reducible apply Box.set20 | with_reducible apply Box.set21 | with_reducible apply Box.set40 | with_reducible apply Box.set41 | with_reducible apply Box.set42 | with_reducible apply Box.set43 | with_reducible apply Box.set50 | with_reducible apply Box.set51 | with_reducible apply Box.set52 | with_reducible apply Box.set53 | with_reducible apply Box.set54 | with_reducible apply Box.drew | (with_reducible apply Box.newAt; (try simp only [World.size_alloc, World.size_setCell, World.size_drew]); done) | with_reducible apply Box.alloc | (with_reducible apply Box.other; case hne => ((try simp only [World.size_alloc, World.size_setCell, World.size_drew]); omega))))
        have hk' : Kept w.heap.size w w2 := Kept.step (by repeat (first | with_reducible exact hk | with_reducible exact Kept.refl _ | with_reducible refine Kept.alloc ?_ _ | with_reducible refine Kept.drew ?_ | with_reducible refine Kept.setCell ?_ (by simp only [World.size_alloc, World.size_setCell, World.size_drew]; omega) _)) hb
        clear hk
        clear Bal1 Bal2 Bal3 Baf Ba0 Ba1
        clear Bsl1 Bsl2 Bsl3 Bsf Bs0 Bs1
        clear Bol1 Bol2 Bol3 Bof Bo0 Bo1
        clear Ba
        clear Bs
        clear Bo
        have Ba := Ba'
        clear Ba'
        have Bs := Bs'
        clear Bs'
        have Bo := Bo'
        clear Bo'
        have hk := hk'
        clear hk' hb
        have hz_w2 := hk.size
        have Bac := Ba.cell
        have Bal := Ba.lt
        have Baf := Ba.free
        have Bal1 : w.heap.size < w2.heap.size + 1 := by omega
        have Bal2 : w.heap.size < w2.heap.size + 1 + 1 := by omega
        have Bal3 : w.heap.size < w2.heap.size + 1 + 1 + 1 := by omega
        have Ba0 := Bac 0 _ rfl
        have Ba1 := Bac 1 _ rfl
        clear Bac
        have Bsc := Bs.cell
        have Bsl := Bs.lt
        have Bsf := Bs.free
        have Bsl1 : w.heap.size + 1 < w2.heap.size + 1 := by omega
        have Bsl2 : w.heap.size + 1 < w2.heap.size + 1 + 1 := by omega
        have Bsl3 : w.heap.size + 1 < w2.heap.size + 1 + 1 + 1 := by omega
        have Bs0 := Bsc 0 _ rfl
        have Bs1 := Bsc 1 _ rfl
        clear Bsc
        have Boc := Bo.cell
        have Bol := Bo.lt
        have Bof := Bo.free
        have Bol1 : w.heap.size + 1 + 1 < w2.heap.size + 1 := by omega
        have Bol2 : w.heap.size + 1 + 1 < w2.heap.size + 1 + 1 := by omega
        have Bol3 : w.heap.size + 1 + 1 < w2.heap.size + 1 + 1 + 1 := by omega
        have Bo0 := Boc 0 _ rfl
        have Bo1 := Boc 1 _ rfl
        clear Boc
        go_wp2
        go_roundw
        case rel => exact ⟨k + 1, by omega, by go_num, (by repeat (first | with_reducible exact hk | with_reducible exact Kept.refl _ | with_reducible refine Kept.alloc ?_ _ | with_reducible refine Kept.drew ?_ | with_reducible refine Kept.setCell ?_ (by simp only [World.size_alloc, World.size_setCell, World.size_drew]; omega) _)), (by repeat (first | with_reducible assumption | with_reducible apply Box.set10 | with_reducible apply Box.set20 | with_reducible apply Box.set21 | with_reducible apply Box.set40 | with_reducible apply Box.set41 | with_reducible apply Box.set42 | with_reducible apply Box.set43 | with_reducible apply Box.set50 | with_reducible apply Box.set51 | with_reducible apply Box.set52 | with_reducible apply Box.set53 | with_reducible apply Box.set54 | with_reducible apply Box.drew | (with_reducible apply Box.newAt; (try simp only [World.size_alloc, World.size_setCell, World.size_drew]); done) | with_reducible apply Box.alloc | (with_reducible apply Box.other; case hne => ((try simp only [World.size_alloc, World.size_setCell, World.size_drew]); omega)))), (by rw [← HL.out]; repeat (first | with_reducible assumption | with_reducible apply Box.set10 | with_reducible apply Box.set20 | with_reducible apply Box.set21 | with_reducible apply Box.set40 | with_reducible apply Box.set41 | with_reducible apply Box.set42 | with_reducible apply Box.set43 | with_reducible apply Box.set50 | with_reducible apply Box.set51 | with_reducible apply Box.set52 | with_reducible apply Box.set53 | with_reducible apply Box.set54 | with_reducible apply Box.drew | (with_reducible apply Box.newAt; (try simp only [World.size_alloc, World.size_setCell, World.size_drew]); done) | with_reducible apply Box.alloc | (with_reducible apply Box.other; case hne => ((try simp only [World.size_alloc, World.size_setCell, World.size_drew]); omega)))), (by repeat (first | with_reducible assumption | with_reducible apply Box.set10 | with_reducible apply Box.set20 | with_reducible apply Box.set21 | with_reducible apply Box.set40 | with_reducible apply Box.set41 | with_reducible apply Box.set42 | with_reducible apply Box.set43 | with_reducible apply Box.set50 | with_reducible apply Box.set51 | with_reducible apply Box.set52 | with_reducible apply Box.set53 | with_reducible apply Box.set54 | with_reducible apply Box.drew | (with_reducible apply Box.newAt; (try simp only [World.size_alloc, World.size_setCell, World.size_drew]); done) | with_reducible apply Box.alloc | (with_reducible apply Box.other; case hne => ((try simp only [World.size_alloc, World.size_setCell, World.size_drew]); omega))))⟩
        case measure => simp [intOf]; omega
      · obtain ⟨hl, hc⟩ := low_bit A hlt hb
        have Bac := Ba.cell
        have Bal := Ba.lt
        have Baf := Ba.free
        have Bal1 : w.heap.size < wr.heap.size + 1 := by omega
        have Bal2 : w.heap.size < wr.heap.size + 1 + 1 := by omega
        have Bal3 : w.heap.size < wr.heap.size + 1 + 1 + 1 := by omega
        have Ba0 := Bac 0 _ rfl
        have Ba1 := Bac 1 _ rfl
        clear Bac
        have Bsc := Bs.cell
        have Bsl := Bs.lt
        have Bsf := Bs.free
        have Bsl1 : w.heap.size + 1 < wr.heap.size + 1 := by omega
        have Bsl2 : w.heap.size + 1 < wr.heap.size + 1 + 1 := by omega
        have Bsl3 : w.heap.size + 1 < wr.heap.size + 1 + 1 + 1 := by omega
        have Bs0 := Bsc 0 _ rfl
        have Bs1 := Bsc 1 _ rfl
        clear Bsc
        have Boc := Bo.cell
        have Bol := Bo.lt
        have Bof := Bo.free
        have Bol1 : w.heap.size + 1 + 1 < wr.heap.size + 1 := by omega
        have Bol2 : w.heap.size + 1 + 1 < wr.heap.size + 1 + 1 := by omega
        have Bol3 : w.heap.size + 1 + 1 < wr.heap.size + 1 + 1 + 1 := by omega
        have Bo0 := Boc 0 _ rfl
        have Bo1 := Boc 1 _ rfl
        clear Boc
        go_wp2_with fail
        (with_reducible refine (Bit_at (IsBits.of hA) _ _).mono ?_)
        rintro e w1 ⟨rfl, hb⟩
        have Ba' : Box w1 (w.heap.size) _ := Box.call hb (by repeat (first | with_reducible assumption | with_reducible apply Box.set10 | with_reducible apply Box.set20 | with_reducible apply Box.set21 | with_reducible apply Box.set40 | with_reducible apply Box.set41 | with_reducible apply Box.set42 | with_reducible apply Box.set43 | with_reducible apply Box.set50 | with_reducible apply Box.set51 | with_reducible apply Box.set52 | with_reducible apply Box.set53 | with_reducible apply Box.set54 | with_reducible apply Box.drew | (with_reducible apply Box.newAt; (try simp only [World.size_alloc, World.size_setCell, World.size_drew]); done) | with_reducible apply Box.alloc | (with_reducible apply Box.other; case hne => ((try simp only [World.size_alloc, World.size_setCell, World.size_drew]); omega))))
        have Bs' : Box w1 (w.heap.size + 1) _ := Box.call hb (by repeat (first | with_reducible assumption | with_reducible apply Box.set10 | with_reducible apply Box.set20 | with_reducible apply Box.set21 | with_reducible apply Box.set40 | with_reducible apply Box.set41 | with_reducible apply Box.set42 | with_reducible apply Box.set43 | with_reducible apply Box.set50 | with_reducible apply Box.set51 | with_reducible apply Box.set52 | with_reducible apply Box.set53 | with_reducible apply Box.set54 | with_reducible apply Box.drew | (with_reducible apply Box.newAt; (try simp only [World.size_alloc, World.size_setCell, World.size_drew]); done) | with_reducible apply Box.alloc | (with_reducible apply Box.other; case hne => ((try simp only [World.size_alloc, World.size_setCell, World.size_drew]); omega))))
        have Bo' : Box w1 (w.heap.size + 1 + 1) _ := Box.call hb (by repeat (first | with_reducible assumption | with_reducible apply Box.set10 | with_reducible apply Box.set20 | with_reducible apply Box.set21 | with_reducible apply Box.set40 | with_reducible apply Box.set41 | with_reducible apply Box.set42 | with_reducible apply Box.set43 | with_reducible apply Box.set50 | with_reducible apply Box.set51 | with_reducible apply Box.set52 | with_reducible apply Box.set53 | with_reducible apply Box.set54 | with_reducible apply Box.drew | (with_reducible apply Box.newAt; (try simp only [World.size_alloc, World.size_setCell, World.size_drew]); done) | with_reducible apply Box.alloc | (with_reducible apply Box.other; case hne => ((try simp only [World.size_alloc, World.size_setCell, World.size_drew]); omega))))
        have hk' : Kept w.heap.size w w1 := Kept.step (by repeat (first | with_reducible exact hk | with_reducible exact Kept.refl _ | with_reducible refine Kept.alloc ?_ _ | with_reducible refine Kept.drew ?_ | with_reducible refine Kept.setCell ?_ (by simp only [World.size_alloc, World.size_setCell, World.size_drew]; omega) _)) hb
        clear hk
        clear Bal1 Bal2 Bal3 Baf Ba0 Ba1
        clear Bsl1 Bsl2 Bsl3 Bsf Bs0 Bs1
        clear Bol1 Bol2 Bol3 Bof Bo0 Bo1
        clear Ba
        clear Bs
        clear Bo
        have Ba := Ba'
        clear Ba'
        have Bs := Bs'
        clear Bs'
        have Bo := Bo'
        clear Bo'
        have hk := hk'
        clear hk' hb
        have hz_w1 := hk.size
        have Bac := Ba.cell
        have Bal := Ba.lt
        have Baf := Ba.free
        have Bal1 : w.heap.size < w1.heap.size + 1 := by omega
        have Bal2 : w.heap.size < w1.heap.size + 1 + 1 := by omega
        have Bal3 : w.heap.size < w1.heap.size + 1 + 1 + 1 := by omega
        have Ba0 := Bac 0 _ rfl
        have Ba1 := Bac 1 _ rfl
        clear Bac
        have Bsc := Bs.cell
        have Bsl := Bs.lt
        have Bsf := Bs.free
        have Bsl1 : w.heap.size + 1 < w1.heap.size + 1 := by omega
        have Bsl2 : w.heap.size + 1 < w1.heap.size + 1 + 1 := by omega
        have Bsl3 : w.heap.size + 1 < w1.heap.size + 1 + 1 + 1 := by omega
        have Bs0 := Bsc 0 _ rfl
        have Bs1 := Bsc 1 _ rfl
        clear Bsc
        have Boc := Bo.cell
        have Bol := Bo.lt
        have Bof := Bo.free
        have Bol1 : w.heap.size + 1 + 1 < w1.heap.size + 1 := by omega
        have Bol2 : w.heap.size + 1 + 1 < w1.heap.size + 1 + 1 := by omega
        have Bol3 : w.heap.size + 1 + 1 < w1.heap.size + 1 + 1 + 1 := by omega
        have Bo0 := Boc 0 _ rfl
        have Bo1 := Boc 1 _ rfl
        clear Boc
        go_wp2_with fail
        (with_reducible refine (Add_at (IsBits.of (low_w _ (by omega))) (IsBits.of (pow_w _)) _).mono ?_)
        rintro e w2 ⟨rfl, hb⟩
        have Ba' : Box w2 (w.heap.size) _ := Box.call hb (by repeat (first | with_reducible assumption | with_reducible apply Box.set10 | with_reducible apply Box.set20 | with_reducible apply Box.set21 | with_reducible apply Box.set40 | with_reducible apply Box.set41 | with_reducible apply Box.set42 | with_reducible apply Box.set43 | with_reducible apply Box.set50 | with_reducible apply Box.set51 | with_reducible apply Box.set52 | with_reducible apply Box.set53 | with_reducible apply Box.set54 | with_reducible apply Box.drew | (with_reducible apply Box.newAt; (try simp only [World.size_alloc, World.size_setCell, World.size_drew]); done) | with_reducible apply Box.alloc | (with_reducible apply Box.other; case hne => ((try simp only [World.size_alloc, World.size_setCell, World.size_drew]); omega))))
        have Bs' : Box w2 (w.heap.size + 1) _ := Box.call hb (by repeat (first | with_reducible assumption | with_reducible apply Box.set10 | with_reducible apply Box.set20 | with_reducible apply Box.set21 | with_reducible apply Box.set40 | with_reducible apply Box.set41 | with_reducible apply Box.set42 | with_reducible apply Box.set43 | with_reducible apply Box.set50 | with_reducible apply Box.set51 | with_reducible apply Box.set52 | with_reducible apply Box.set53 | with_reducible apply Box.set54 | with_reducible apply Box.drew | (with_reducible apply Box.newAt; (try simp only [World.size_alloc, World.size_setCell, World.size_drew]); done) | with_reducible apply Box.alloc | (with_reducible apply Box.other; case hne => ((try simp only [World.size_alloc, World.size_setCell, World.size_drew]); omega))))
        have Bo' : Box w2 (w.heap.size + 1 + 1) _ := Box.call hb (by repeat (first | with_reducible assumption | with_reducible apply Box.set10 | with_reducible apply Box.set20 | with_reducible apply Box.set21 | with_reducible apply Box.set40 | with_reducible apply Box.set41 | with_reducible apply Box.set42 | with_reducible apply Box.set43 | with_reducible apply Box.set50 | with_reducible apply Box.set51 | with_reducible apply Box.set52 | with_reducible apply Box.set53 | with_reducible apply Box.set54 | with_reducible apply Box.drew | (with_reducible apply Box.newAt; (try simp only [World.size_alloc, World.size_setCell, World.size_drew]); done) | with_reducible apply Box.alloc | (with_reducible apply Box.other; case hne => ((try simp only [World.size_alloc, World.size_setCell, World.size_drew]); omega))))
        have hk' : Kept w.heap.size w w2 := Kept.step (by repeat (first | with_reducible exact hk | with_reducible exact Kept.refl _ | with_reducible refine Kept.alloc ?_ _ | with_reducible refine Kept.drew ?_ | with_reducible refine Kept.setCell ?_ (by simp only [World.size_alloc, World.size_setCell, World.size_drew]; omega) _)) hb
        clear hk
        clear Bal1 Bal2 Bal3 Baf Ba0 Ba1
        clear Bsl1 Bsl2 Bsl3 Bsf Bs0 Bs1
        clear Bol1 Bol2 Bol3 Bof Bo0 Bo1
        clear Ba
        clear Bs
        clear Bo
        have Ba := Ba'
        clear Ba'
        have Bs := Bs'
        clear Bs'
        have Bo := Bo'
        clear Bo'
        have hk := hk'
        clear hk' hb
        have hz_w2 := hk.size
        have Bac := Ba.cell
        have Bal := Ba.lt
        have Baf := Ba.free
        have Bal1 : w.heap.size < w2.heap.size + 1 := by omega
        have Bal2 : w.heap.size < w2.heap.size + 1 + 1 := by omega
        have Bal3 : w.heap.size < w2.heap.size + 1 + 1 + 1 := by omega
        have Ba0 := Bac 0 _ rfl
        have Ba1 := Bac 1 _ rfl
        clear Bac
        have Bsc := Bs.cell
        have Bsl := Bs.lt
        have Bsf := Bs.free
        have Bsl1 : w.heap.size + 1 < w2.heap.size + 1 := by omega
        have Bsl2 : w.heap.size + 1 < w2.heap.size + 1 + 1 := by omega
        have Bsl3 : w.heap.size + 1 < w2.heap.size + 1 + 1 + 1 := by omega
        have Bs0 := Bsc 0 _ rfl
        have Bs1 := Bsc 1 _ rfl
        clear Bsc
        have Boc := Bo.cell
        have Bol := Bo.lt
        have Bof := Bo.free
        have Bol1 : w.heap.size + 1 + 1 < w2.heap.size + 1 := by omega
        have Bol2 : w.heap.size + 1 + 1 < w2.heap.size + 1 + 1 := by omega
        have Bol3 : w.heap.size + 1 + 1 < w2.heap.size + 1 + 1 + 1 := by omega
        have Bo0 := Boc 0 _ rfl
        have Bo1 := Boc 1 _ rfl
        clear Boc
        go_wp2_with fail
        (with_reducible refine (Add_at (IsBits.of (pow_w _)) (IsBits.of (pow_w _)) _).mono ?_)
        rintro e w3 ⟨rfl, hb⟩
        have Ba' : Box w3 (w.heap.size) _ := Box.call hb (by repeat (first | with_reducible assumption | with_reducible apply Box.set10 | with_reducible apply Box.set20 | with_reducible apply Box.set21 | with_reducible apply Box.set40 | with_reducible apply Box.set41 | with_reducible apply Box.set42 | with_reducible apply Box.set43 | with_reducible apply Box.set50 | with_reducible apply Box.set51 | with_reducible apply Box.set52 | with_reducible apply Box.set53 | with_reducible apply Box.set54 | with_reducible apply Box.drew | (with_reducible apply Box.newAt; (try simp only [World.size_alloc, World.size_setCell, World.size_drew]); done) | with_reducible apply Box.alloc | (with_reducible apply Box.other; case hne => ((try simp only [World.size_alloc, World.size_setCell, World.size_drew]); omega))))
        have Bs' : Box w3 (w.heap.size + 1) _ := Box.call hb (by repeat (first | with_reducible assumption | with_reducible apply Box.set10 | with_reducible apply Box.set20 | with_reducible apply Box.set21 | with_reducible apply Box.set40 | with_reducible apply Box.set41 | with_reducible apply Box.set42 | with_reducible apply Box.set43 | with_reducible apply Box.set50 | with_reducible apply Box.set51 | with_reducible apply Box.set52 | with_reducible apply Box.set53 | with_reducible apply Box.set54 | with_reducible apply Box.drew | (with_reducible apply Box.newAt; (try simp only [World.size_alloc, World.size_setCell, World.size_drew]); done) | with_reducible apply Box.alloc | (with_reducible apply Box.other; case hne => ((try simp only [World.size_alloc, World.size_setCell, World.size_drew]); omega))))
        have Bo' : Box w3 (w.heap.size + 1 + 1) _ := Box.call hb (by repeat (first | with_reducible assumption | with_reducible apply Box.set10 | with_reducible apply Box.set20 | with_reducible apply Box.set21 | with_reducible apply Box.set40 | with_reducible apply Box.set41 | with_reducible apply Box.set42 | with_reducible apply Box.set43 | with_reducible apply Box.set50 | with_reducible apply Box.set51 | with_reducible apply Box.set52 | with_reducible apply Box.set53 | with_reducible apply Box.set54 | with_reducible apply Box.drew | (with_reducible apply Box.newAt; (try simp only [World.size_alloc, World.size_setCell, World.size_drew]); done) | with_reducible apply Box.alloc | (with_reducible apply Box.other; case hne => ((try simp only [World.size_alloc, World.size_setCell, World.size_drew]); omega))))
        have hk' : Kept w.heap.size w w3 := Kept.step (by repeat (first | with_reducible exact hk | with_reducible exact Kept.refl _ | with_reducible refine Kept.alloc ?_ _ | with_reducible refine Kept.drew ?_ | with_reducible refine Kept.setCell ?_ (by simp only [World.size_alloc, World.size_setCell, World.size_drew]; omega) _)) hb
        clear hk
        clear Bal1 Bal2 Bal3 Baf Ba0 Ba1
        clear Bsl1 Bsl2 Bsl3 Bsf Bs0 Bs1
        clear Bol1 Bol2 Bol3 Bof Bo0 Bo1
        clear Ba
        clear Bs
        clear Bo
        have Ba := Ba'
        clear Ba'
        have Bs := Bs'
        clear Bs'
        have Bo := Bo'
        clear Bo'
        have hk := hk'
        clear hk' hb
        have hz_w3 := hk.size
        have Bac := Ba.cell
        have Bal := Ba.lt
        have Baf := Ba.free
        have Bal1 : w.heap.size < w3.heap.size + 1 := by omega
        have Bal2 : w.heap.size < w3.heap.size + 1 + 1 := by omega
        have Bal3 : w.heap.size < w3.heap.size + 1 + 1 + 1 := by omega
        have Ba0 := Bac 0 _ rfl
        have Ba1 := Bac 1 _ rfl
        clear Bac
        have Bsc := Bs.cell
        have Bsl := Bs.lt
        have Bsf := Bs.free
        have Bsl1 : w.heap.size + 1 < w3.heap.size + 1 := by omega
        have Bsl2 : w.heap.size + 1 < w3.heap.size + 1 + 1 := by omega
        have Bsl3 : w.heap.size + 1 < w3.heap.size + 1 + 1 + 1 := by omega
        have Bs0 := Bsc 0 _ rfl
        have Bs1 := Bsc 1 _ rfl
        clear Bsc
        have Boc := Bo.cell
        have Bol := Bo.lt
        have Bof := Bo.free
        have Bol1 : w.heap.size + 1 + 1 < w3.heap.size + 1 := by omega
        have Bol2 : w.heap.size + 1 + 1 < w3.heap.size + 1 + 1 := by omega
        have Bol3 : w.heap.size + 1 + 1 < w3.heap.size + 1 + 1 + 1 := by omega
        have Bo0 := Boc 0 _ rfl
        have Bo1 := Boc 1 _ rfl
        clear Boc
        go_wp2
        go_roundw
        case rel => exact ⟨k + 1, by omega, by go_num, (by repeat (first | with_reducible exact hk | with_reducible exact Kept.refl _ | with_reducible refine Kept.alloc ?_ _ | with_reducible refine Kept.drew ?_ | with_reducible refine Kept.setCell ?_ (by simp only [World.size_alloc, World.size_setCell, World.size_drew]; omega) _)), (by repeat (first | with_reducible assumption | with_reducible apply Box.set10 | with_reducible apply Box.set20 | with_reducible apply Box.set21 | with_reducible apply Box.set40 | with_reducible apply Box.set41 | with_reducible apply Box.set42 | with_reducible apply Box.set43 | with_reducible apply Box.set50 | with_reducible apply Box.set51 | with_reducible apply Box.set52 | with_reducible apply Box.set53 | with_reducible apply Box.set54 | with_reducible apply Box.drew | (with_reducible apply Box.newAt; (try simp only [World.size_alloc, World.size_setCell, World.size_drew]); done) | with_reducible apply Box.alloc | (with_reducible apply Box.other; case hne => ((try simp only [World.size_alloc, World.size_setCell, World.size_drew]); omega)))), (by repeat (first | with_reducible assumption | with_reducible apply Box.set10 | with_reducible apply Box.set20 | with_reducible apply Box.set21 | with_reducible apply Box.set40 | with_reducible apply Box.set41 | with_reducible apply Box.set42 | with_reducible apply Box.set43 | with_reducible apply Box.set50 | with_reducible apply Box.set51 | with_reducible apply Box.set52 | with_reducible apply Box.set53 | with_reducible apply Box.set54 | with_reducible apply Box.drew | (with_reducible apply Box.newAt; (try simp only [World.size_alloc, World.size_setCell, World.size_drew]); done) | with_reducible apply Box.alloc | (with_reducible apply Box.other; case hne => ((try simp only [World.size_alloc, World.size_setCell, World.size_drew]); omega)))), (by repeat (first | with_reducible assumption | with_reducible apply Box.set10 | with_reducible apply Box.set20 | with_reducible apply Box.set21 | with_reducible apply Box.set40 | with_reducible apply Box.set41 | with_reducible apply Box.set42 | with_reducible apply Box.set43 | with_reducible apply Box.set50 | with_reducible apply Box.set51 | with_reducible apply Box.set52 | with_reducible apply Box.set53 | with_reducible apply Box.set54 | with_reducible apply Box.drew | (with_reducible apply Box.newAt; (try simp only [World.size_alloc, World.size_setCell, World.size_drew]); done) | with_reducible apply Box.alloc | (with_reducible apply Box.other; case hne => ((try simp only [World.size_alloc, World.size_setCell, World.size_drew]); omega))))⟩
        case measure => simp [intOf]; omega
    · have hk2 : k = 128 := by omega
      subst hk2
      have q1 := low_all hA
      have Bac := Ba.cell
      have Bal := Ba.lt
      have Baf := Ba.free
      have Bal1 : w.heap.size < wr.heap.size + 1 := by omega
      have Bal2 : w.heap.size < wr.heap.size + 1 + 1 := by omega
      have Bal3 : w.heap.size < wr.heap.size + 1 + 1 + 1 := by omega
      have Ba0 := Bac 0 _ rfl
      have Ba1 := Bac 1 _ rfl
      clear Bac
      have Bsc := Bs.cell
      have Bsl := Bs.lt
      have Bsf := Bs.free
      have Bsl1 : w.heap.size + 1 < wr.heap.size + 1 := by omega
      have Bsl2 : w.heap.size + 1 < wr.heap.size + 1 + 1 := by omega
      have Bsl3 : w.heap.size + 1 < wr.heap.size + 1 + 1 + 1 := by omega
      have Bs0 := Bsc 0 _ rfl
      have Bs1 := Bsc 1 _ rfl
      clear Bsc
      have Boc := Bo.cell
      have Bol := Bo.lt
      have Bof := Bo.free
      have Bol1 : w.heap.size + 1 + 1 < wr.heap.size + 1 := by omega
      have Bol2 : w.heap.size + 1 + 1 < wr.heap.size + 1 + 1 := by omega
      have Bol3 : w.heap.size + 1 + 1 < wr.heap.size + 1 + 1 + 1 := by omega
      have Bo0 := Boc 0 _ rfl
      have Bo1 := Boc 1 _ rfl
      clear Boc
      by_cases hf : 0 ≤ far ∧ far < 128
      · obtain ⟨hf1, hf2⟩ := hf
        go_wp2_with (first
    | (go_at_call 40; (with_reducible refine (Bit_at (IsBits.of hA) _ _).mono ?_); rintro e w' ⟨rfl, hb⟩; have hR := Known.only (w.heap.size) hb; (simp only [Known, and_true] at hR); replace hk : Kept w.heap.size w w' := Kept.step (by repeat (first | with_reducible exact hk | with_reducible refine Kept.alloc ?_ _ | with_reducible refine Kept.drew ?_ | with_reducible refine Kept.setCell ?_ (by simp; omega) _)) hb; have hz := hb.size; (try simp only [World.size_alloc, World.size_setCell, World.size_drew] at hz); clear hb)
    | (go_at_call 38; (with_reducible refine (counts01_any _).mono ?_); rintro e w' ⟨rfl, hb⟩; have hR := Known.only (w.heap.size) hb; (simp only [Known, and_true] at hR); replace hk : Kept w.heap.size w w' := Kept.step (by repeat (first | with_reducible exact hk | with_reducible refine Kept.alloc ?_ _ | with_reducible refine Kept.drew ?_ | with_reducible refine Kept.setCell ?_ (by simp; omega) _)) hb; have hz := hb.size; (try simp only [World.size_alloc, World.size_setCell, World.size_drew] at hz); clear hb))
        go_ret
        exact ⟨rfl, (by refine Kept.below ?_; repeat (first | with_reducible exact hk | with_reducible exact Kept.refl _ | with_reducible refine Kept.alloc ?_ _ | with_reducible refine Kept.drew ?_ | with_reducible refine Kept.setCell ?_ (by simp only [World.size_alloc, World.size_setCell, World.size_drew]; omega) _))⟩
      · have hbf : bitZ A far = false := bit_far hA (by omega)
        by_cases hf1 : 0 ≤ far
        · have hf2 : ¬ far < 128 := by omega
          clear hf
          go_wp2_with (first
    | (go_at_call 40; (with_reducible refine (Bit_at (IsBits.of hA) _ _).mono ?_); rintro e w' ⟨rfl, hb⟩; have hR := Known.only (w.heap.size) hb; (simp only [Known, and_true] at hR); replace hk : Kept w.heap.size w w' := Kept.step (by repeat (first | with_reducible exact hk | with_reducible refine Kept.alloc ?_ _ | with_reducible refine Kept.drew ?_ | with_reducible refine Kept.setCell ?_ (by simp; omega) _)) hb; have hz := hb.size; (try simp only [World.size_alloc, World.size_setCell, World.size_drew] at hz); clear hb)
    | (go_at_call 38; (with_reducible refine (counts01_any _).mono ?_); rintro e w' ⟨rfl, hb⟩; have hR := Known.only (w.heap.size) hb; (simp only [Known, and_true] at hR); replace hk : Kept w.heap.size w w' := Kept.step (by repeat (first | with_reducible exact hk | with_reducible refine Kept.alloc ?_ _ | with_reducible refine Kept.drew ?_ | with_reducible refine Kept.setCell ?_ (by simp; omega) _)) hb; have hz := hb.size; (try simp only [World.size_alloc, World.size_setCell, World.size_drew] at hz); clear hb))
          go_ret
          exact ⟨rfl, (by refine Kept.below ?_; repeat (first | with_reducible exact hk | with_reducible exact Kept.refl _ | with_reducible refine Kept.alloc ?_ _ | with_reducible refine Kept.drew ?_ | with_reducible refine Kept.setCell ?_ (by simp only [World.size_alloc, World.size_setCell, World.size_drew]; omega) _))⟩
        · clear hf
          go_wp2_with (first
    | (go_at_call 40; (with_reducible refine (Bit_at (IsBits.of hA) _ _).mono ?_); rintro e w' ⟨rfl, hb⟩; have hR := Known.only (w.heap.size) hb; (simp only [Known, and_true] at hR); replace hk : Kept w.heap.size w w' := Kept.step (by repeat (first | with_reducible exact hk | with_reducible refine Kept.alloc ?_ _ | with_reducible refine Kept.drew ?_ | with_reducible refine Kept.setCell ?_ (by simp; omega) _)) hb; have hz := hb.size; (try simp only [World.size_alloc, World.size_setCell, World.size_drew] at hz); clear hb)
    | (go_at_call 38; (with_reducible refine (counts01_any _).mono ?_); rintro e w' ⟨rfl, hb⟩; have hR := Known.only (w.heap.size) hb; (simp only [Known, and_true] at hR); replace hk : Kept w.heap.size w w' := Kept.step (by repeat (first | with_reducible exact hk | with_reducible refine Kept.alloc ?_ _ | with_reducible refine Kept.drew ?_ | with_reducible refine Kept.setCell ?_ (by simp; omega) _)) hb; have hz := hb.size; (try simp only [World.size_alloc, World.size_setCell, World.size_drew] at hz); clear hb))
          go_ret
          exact ⟨rfl, (by refine Kept.below ?_; repeat (first | with_reducible exact hk | with_reducible exact Kept.refl _ | with_reducible refine Kept.alloc ?_ _ | with_reducible refine Kept.drew ?_ | with_reducible refine Kept.setCell ?_ (by simp only [World.size_alloc, World.size_setCell, World.size_drew]; omega) _))⟩
end Go.Proofs.Ytohlhmicolnmbaa
