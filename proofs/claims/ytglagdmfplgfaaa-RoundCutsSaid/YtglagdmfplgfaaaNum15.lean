/- Plain arithmetic of rounding: what is kept, what is beyond it, what is cut. No program is in sight. -/
import Derived.Test.YtglagdmfplgfaaaNum3
import Derived.Test.YtglagdmfplgfaaaMode
set_option linter.unusedVariables false
set_option linter.unusedSimpArgs false
namespace Go.Proofs.Ytglagdmfplgfaaa

/-- what is beyond the bits that are kept: 0 none, 1 less than a half, 2 a half, 3 more -/
def restI (W : Nat) (k : Int) : Int := ofI (bitZ W (255 - k)) (lostB W (255 - k))
def floorN (W : Nat) (k : Int) : Nat := rightN W (256 - k)
def oddB (A : Nat) : Bool := decide (A % 2 = 1)
def upB (W : Nat) (k m : Int) (neg : Bool) : Bool := nextB m neg (oddB (floorN W k)) (restI W k)
def cutN (W : Nat) (k m : Int) (neg : Bool) : Nat := floorN W k + (if upB W k m neg = true then 1 else 0)
def moreB (W : Nat) (k : Int) : Bool := decide (restI W k ≠ 0)

theorem ofI_range (a b : Bool) : 0 ≤ ofI a b ∧ ofI a b ≤ 3 := by cases a <;> cases b <;> decide
theorem restI_range (W : Nat) (k : Int) : 0 ≤ restI W k ∧ restI W k ≤ 3 := ofI_range _ _

/-- the parts of a number at a place: above it, the bit, below it -/
theorem place (W j : Nat) : W = W / 2 ^ (j + 1) * 2 ^ (j + 1) + (W / 2 ^ j % 2) * 2 ^ j + W % 2 ^ j := by
  have h1 := Nat.div_add_mod W (2 ^ j)
  have h2 := Nat.div_add_mod (W / 2 ^ j) 2
  have h3 : W / 2 ^ (j + 1) = W / 2 ^ j / 2 := by rw [Nat.pow_succ, Nat.div_div_eq_div_mul]
  rw [h3]
  generalize W / 2 ^ j = q at *
  generalize W % 2 ^ j = r at *
  have h4 : q / 2 * 2 ^ (j + 1) = 2 ^ j * (2 * (q / 2)) := by rw [Nat.pow_succ]; ac_rfl
  have h5 : q % 2 * 2 ^ j = 2 ^ j * (q % 2) := Nat.mul_comm _ _
  rw [h4, h5, ← Nat.mul_add, h2, h1]
theorem rest_at (W j : Nat) : W % 2 ^ (j + 1) = (W / 2 ^ j % 2) * 2 ^ j + W % 2 ^ j := by
  rw [Nat.pow_succ, Nat.mod_mul, Nat.mul_comm (2 ^ j) (W / 2 ^ j % 2), Nat.add_comm]
theorem bitZ_at (W : Nat) (j : Nat) : bitZ W (j : Int) = decide (W / 2 ^ j % 2 = 1) := by
  unfold bitZ
  rw [decide_eq_true (by omega : (0 : Int) ≤ j), Bool.true_and, Int.toNat_natCast, Nat.testBit_eq_decide_div_mod_eq]
theorem lost_at' (W j : Nat) : lostB W (j : Int) = decide (W % 2 ^ j ≠ 0) := by unfold lostB; rw [Int.toNat_natCast]

/-- what is beyond, by the rest itself: r the rest, h half a place -/
theorem rest_spec (W : Nat) (k : Int) (h0 : 0 ≤ k) (h1 : k ≤ 127) :
    ∃ j : Nat, 255 - k = j ∧ 256 - k = ((j + 1 : Nat) : Int) ∧
      ((W % 2 ^ (j + 1) = 0 ∧ restI W k = 0) ∨ (0 < W % 2 ^ (j + 1) ∧ W % 2 ^ (j + 1) < 2 ^ j ∧ restI W k = 1) ∨ (W % 2 ^ (j + 1) = 2 ^ j ∧ restI W k = 2) ∨ (2 ^ j < W % 2 ^ (j + 1) ∧ restI W k = 3)) := by
  obtain ⟨j, hj⟩ : ∃ j : Nat, 255 - k = j := ⟨(255 - k).toNat, by omega⟩
  refine ⟨j, hj, by omega, ?_⟩
  unfold restI
  rw [hj, bitZ_at, lost_at', rest_at]
  have hlt := Nat.mod_lt W (Nat.two_pow_pos j)
  have hb : W / 2 ^ j % 2 = 0 ∨ W / 2 ^ j % 2 = 1 := by omega
  generalize W % 2 ^ j = r at *
  generalize 2 ^ j = p at *
  rcases hb with hb | hb
  · rw [hb]
    by_cases hr : r = 0
    · subst hr; left; exact ⟨by omega, by simp [ofI]⟩
    · right; left; exact ⟨by omega, by omega, by simp [ofI, hr]⟩
  · rw [hb]
    by_cases hr : r = 0
    · subst hr; right; right; left; exact ⟨by omega, by simp [ofI]⟩
    · right; right; right; exact ⟨by omega, by simp [ofI, hr]⟩

theorem floor_lt {W : Nat} (hW : W256 W) {k : Int} (h0 : 0 ≤ k) (h1 : k ≤ 127) : floorN W k < 2 ^ 127 := by
  have := hW.lt
  unfold floorN rightN
  rw [Nat.div_lt_iff_lt_mul (Nat.two_pow_pos _)]
  have h2 : 2 ^ 129 ≤ 2 ^ (256 - k).toNat := Nat.pow_le_pow_right (by omega) (by omega)
  calc W < 2 ^ 127 * 2 ^ 129 := by omega
    _ ≤ 2 ^ 127 * 2 ^ (256 - k).toNat := Nat.mul_le_mul_left _ h2
theorem floor_w {W : Nat} (hW : W256 W) {k : Int} (h0 : 0 ≤ k) (h1 : k ≤ 127) : W128 (floorN W k) := ⟨by have := floor_lt hW h0 h1; omega⟩
theorem cut_w {W : Nat} (hW : W256 W) {k : Int} (h0 : 0 ≤ k) (h1 : k ≤ 127) (m : Int) (neg : Bool) : W128 (cutN W k m neg) := ⟨by
  have := floor_lt hW h0 h1
  unfold cutN; split <;> omega⟩
theorem add_one128 {A : Nat} (h : A < 2 ^ 127) : add128 A 1 = A + 1 := by unfold add128; omega
theorem cut_up {W : Nat} {k m : Int} {neg : Bool} (h : upB W k m neg = true) : cutN W k m neg = floorN W k + 1 := by unfold cutN; rw [if_pos h]
theorem cut_no {W : Nat} {k m : Int} {neg : Bool} (h : upB W k m neg = false) : cutN W k m neg = floorN W k := by unfold cutN; rw [if_neg (by rw [h]; decide)]; rfl
theorem lo_small {A : Nat} (h : W128 A) : loN A = A := by unfold loN; exact Nat.mod_eq_of_lt h.lt

/-! nearness -/
theorem more_lost (W : Nat) (k : Int) (h0 : 0 ≤ k) (h1 : k ≤ 127) : moreB W k = lostB W (256 - k) := by
  obtain ⟨j, _, e2, h⟩ := rest_spec W k h0 h1
  unfold moreB lostB
  rw [e2, Int.toNat_natCast, decide_eq_decide]
  have := Nat.two_pow_pos j
  rcases h with ⟨a, b⟩ | ⟨a, _, b⟩ | ⟨a, b⟩ | ⟨a, b⟩ <;> rw [b] <;> omega
theorem up_more {W : Nat} {k m : Int} {neg : Bool} (h : upB W k m neg = true) : moreB W k = true := by
  unfold upB nextB at h
  unfold moreB
  simp only [Bool.and_eq_true, decide_eq_true_eq] at h
  rw [decide_eq_true_iff]; omega
theorem up_zero (W : Nat) (k : Int) (neg : Bool) : upB W k 4 neg = false := by unfold upB nextB; simp
/-- what is beyond, moved to the top -/
theorem left_rest {W : Nat} {k : Int} (j : Nat) (h : 256 - k = ((j + 1 : Nat) : Int)) (h0 : 0 ≤ k) : left256 W k = (W % 2 ^ (j + 1)) * 2 ^ k.toNat ∧ 2 ^ j * 2 ^ k.toNat = 2 ^ 255 := by
  have e : j + 1 + k.toNat = 256 := by omega
  constructor
  · unfold left256
    rw [show (2 : Nat) ^ 256 = 2 ^ (j + 1) * 2 ^ k.toNat by rw [← Nat.pow_add, e], Nat.mul_mod_mul_right]
  · rw [← Nat.pow_add, show j + k.toNat = 255 by omega]
theorem near_half {W : Nat} {k : Int} (h0 : 0 ≤ k) (h1 : k ≤ 127) {m : Int} (hm : m = 0 ∨ m = 1) (neg : Bool) :
    (upB W k m neg = true → 0 ≤ cmpN (left256 W k) (2 ^ 255)) ∧ (upB W k m neg = false → cmpN (left256 W k) (2 ^ 255) ≤ 0) := by
  obtain ⟨j, e1, e2, h⟩ := rest_spec W k h0 h1
  obtain ⟨l1, l2⟩ := left_rest (W := W) j e2 h0
  rw [l1, ← l2]
  have hp := Nat.two_pow_pos k.toNat
  have ge : 2 ^ j ≤ W % 2 ^ (j + 1) → 0 ≤ cmpN (W % 2 ^ (j + 1) * 2 ^ k.toNat) (2 ^ j * 2 ^ k.toNat) := fun h => by
    have := Nat.mul_le_mul_right (2 ^ k.toNat) h
    unfold cmpN cmpI; split <;> (try split) <;> omega
  have le : W % 2 ^ (j + 1) ≤ 2 ^ j → cmpN (W % 2 ^ (j + 1) * 2 ^ k.toNat) (2 ^ j * 2 ^ k.toNat) ≤ 0 := fun h => cmp_le.2 (Nat.mul_le_mul_right _ h)
  have hu : upB W k m neg = nextB m neg (oddB (floorN W k)) (restI W k) := rfl
  rcases h with ⟨a, b⟩ | ⟨a, a2, b⟩ | ⟨a, b⟩ | ⟨a, b⟩
  · rw [b] at hu
    refine ⟨fun h => ?_, fun _ => le (by omega)⟩
    rw [hu] at h; simp [nextB] at h
  · rw [b] at hu
    refine ⟨fun h => ?_, fun _ => le (by omega)⟩
    rw [hu] at h; rcases hm with rfl | rfl <;> simp [nextB] at h
  · exact ⟨fun _ => ge (by omega), fun _ => le (by omega)⟩
  · rw [b] at hu
    refine ⟨fun _ => ge (by omega), fun h => ?_⟩
    rw [hu] at h; rcases hm with rfl | rfl <;> simp [nextB] at h

/-! order -/
theorem cut_mono {V W : Nat} (h : V ≤ W) {k : Int} (h0 : 0 ≤ k) (h1 : k ≤ 127) (m : Int) (neg : Bool) : cutN V k m neg ≤ cutN W k m neg := by
  obtain ⟨j, e1, e2, hV⟩ := rest_spec V k h0 h1
  obtain ⟨j', e1', e2', hW⟩ := rest_spec W k h0 h1
  have : j' = j := by omega
  subst this
  have hf : floorN V k ≤ floorN W k := right_mono h _
  by_cases e : floorN V k = floorN W k
  · have hr : V % 2 ^ (j' + 1) ≤ W % 2 ^ (j' + 1) := by
      have a := Nat.div_add_mod V (2 ^ (j' + 1))
      have b := Nat.div_add_mod W (2 ^ (j' + 1))
      unfold floorN rightN at e
      rw [e2, Int.toNat_natCast] at e
      rw [e] at a; omega
    have hI : restI V k ≤ restI W k := by omega
    have hu : upB V k m neg = true → upB W k m neg = true := by
      unfold upB
      rw [e]
      unfold nextB
      have := restI_range V k
      have := restI_range W k
      generalize restI V k = x at *
      generalize restI W k = y at *
      cases neg <;> cases oddB (floorN W k) <;> simp <;> omega
    unfold cutN
    rw [e]
    by_cases hu1 : upB V k m neg = true
    · rw [if_pos hu1, if_pos (hu hu1)]; exact Nat.le_refl _
    · rw [if_neg hu1]; omega
  · unfold cutN; split <;> split <;> omega

/-! jammed ahead -/
theorem jam_floor (W : Nat) {n y : Int} (hn : 0 ≤ n) (hy : 0 < y) : rightN (jamN W n) y = rightN W (n + y) := by
  rw [← right_right W hn (by omega : 0 ≤ y)]
  by_cases h : lostB W n = true
  · rw [jam_yes h, odd_right _ hy]
  · rw [jam_no (Bool.eq_false_iff.2 h)]
theorem jam_lost (W : Nat) {n y : Int} (hn : 0 ≤ n) (hy : 0 < y) : lostB (jamN W n) y = lostB W (n + y) := by
  rw [lost_split W hn (by omega : 0 ≤ y)]
  by_cases h : lostB W n = true
  · rw [jam_yes h, odd_lost _ hy, h]; rfl
  · rw [jam_no (Bool.eq_false_iff.2 h), Bool.eq_false_iff.2 h, Bool.false_or]
theorem bit_right (W : Nat) {n : Int} (hn : 0 ≤ n) : bitZ W n = oddB (rightN W n) := by
  obtain ⟨j, rfl⟩ := Int.eq_ofNat_of_zero_le hn
  rw [bitZ_at]; unfold oddB rightN; rw [Int.toNat_natCast]
theorem jam_rest (W : Nat) {k n : Int} (hn : 0 ≤ n) (hk : 0 ≤ k) (h : k + n ≤ 127) : restI (jamN W n) (k + n) = restI W k := by
  unfold restI
  rw [jam_lost W hn (by omega), show n + (255 - (k + n)) = 255 - k by omega, bit_right _ (by omega), jam_floor W hn (by omega), show n + (255 - (k + n)) = 255 - k by omega, ← bit_right _ (by omega)]
theorem jam_floor' (W : Nat) {k n : Int} (hn : 0 ≤ n) (hk : 0 ≤ k) (h : k + n ≤ 127) : floorN (jamN W n) (k + n) = floorN W k := by
  unfold floorN
  rw [jam_floor W hn (by omega), show n + (256 - (k + n)) = 256 - k by omega]
theorem jam_up (W : Nat) {k n : Int} (hn : 0 ≤ n) (hk : 0 ≤ k) (h : k + n ≤ 127) (m : Int) (neg : Bool) : upB (jamN W n) (k + n) m neg = upB W k m neg := by
  unfold upB; rw [jam_floor' W hn hk h, jam_rest W hn hk h]
theorem jam_cut (W : Nat) {k n : Int} (hn : 0 ≤ n) (hk : 0 ≤ k) (h : k + n ≤ 127) (m : Int) (neg : Bool) : cutN (jamN W n) (k + n) m neg = cutN W k m neg := by
  unfold cutN; rw [jam_floor' W hn hk h, jam_up W hn hk h]
theorem jam_more (W : Nat) {k n : Int} (hn : 0 ≤ n) (hk : 0 ≤ k) (h : k + n ≤ 127) : moreB (jamN W n) (k + n) = moreB W k := by
  unfold moreB; rw [jam_rest W hn hk h]

/-! the other sign -/
theorem cut_mirror (W : Nat) (k m : Int) : cutN W k (mirrorI m) false = cutN W k m true := by
  have h : ∀ odd r, nextB (mirrorI m) false odd r = nextB m true odd r := fun odd r => by
    unfold nextB mirrorI
    split
    · subst m; simp
    · split
      · subst m; simp
      · rename_i a b; simp [decide_eq_false a, decide_eq_false b]
  unfold cutN upB; rw [h]
theorem up_up (W : Nat) (k : Int) : upB W k 2 false = moreB W k := by
  have := restI_range W k
  unfold upB nextB moreB
  rw [Bool.eq_iff_iff]; simp; omega
theorem up_down (W : Nat) (k : Int) : upB W k 3 false = false := by unfold upB nextB; simp
end Go.Proofs.Ytglagdmfplgfaaa
