/- The walk of ModeOrder: it answers true for every input, and old memory is as it was. -/
import Derived.Test.YtbifpmpnfcfkkaaLaw13
namespace Go.Proofs.Ytbifpmpnfcfkkaa
open Go.RowKit Go.Maps

theorem next_more (m : Int) (neg odd : Bool) (r : Int) (h0 : 0 ≤ r) (h : r < 3) (h1 : nextB m neg odd r = true) : nextB m neg odd (r + 1) = true := by
  have : r = 0 ∨ r = 1 ∨ r = 2 := by omega
  rcases this with rfl | rfl | rfl <;> cases neg <;> cases odd <;> simp [nextB] at h1 ⊢ <;> omega
theorem next_none (m : Int) (neg odd : Bool) : nextB m neg odd 0 = false := by simp [nextB]
theorem next_zero (neg odd : Bool) (r : Int) : nextB 4 neg odd r = false := by simp [nextB]
theorem next_up (neg odd : Bool) (r : Int) (h : 1 ≤ r) (h3 : r ≤ 3) : nextB 2 neg odd r = !neg := by simp [nextB, h, h3]
theorem next_down (neg odd : Bool) (r : Int) (h : 1 ≤ r) (h3 : r ≤ 3) : nextB 3 neg odd r = neg := by simp [nextB, h, h3]

set_option maxHeartbeats 400000 in
theorem ModeOrder_0_false (m : Int) (neg odd : Bool) (r : Int) (hm : 0 ≤ m) (hr0 : 0 ≤ r) (hr : r % 4 = 0) (w : World) :
    Calls Try.prog 4 #[.int .u8 m, .bool neg, .bool odd, .int .u8 r] w fun e w' => e = .returned (.bool true) ∧ Below w.heap.size w w' := by
  have hk := Kept.refl w
  go_enter Try.func4, Try.ntmps4
  go_wp2_with (first
    | (go_at_call 18; refine (Calls.known true (by first | exact next_none _ _ _) (Next_any _ _ _ _ (by omega) (by omega) _)).mono ?_; rintro e w' ⟨rfl, hb⟩; replace hk := hk.step hb)
    | (go_at_call 18; refine (Calls.known false (by first | exact next_none _ _ _) (Next_any _ _ _ _ (by omega) (by omega) _)).mono ?_; rintro e w' ⟨rfl, hb⟩; replace hk := hk.step hb)
    | (go_at_call 17; refine (goes13_any _).mono ?_; rintro e w' ⟨rfl, hb⟩; replace hk := hk.step hb))
  go_ret
  exact ⟨rfl, hk.below⟩
set_option maxHeartbeats 400000 in
theorem ModeOrder_1_false (m : Int) (neg odd : Bool) (r : Int) (hm : 0 ≤ m) (hr0 : 0 ≤ r) (hr : r % 4 = 1) (h1 : nextB m neg odd 1 = false) (w : World) :
    Calls Try.prog 4 #[.int .u8 m, .bool neg, .bool odd, .int .u8 r] w fun e w' => e = .returned (.bool true) ∧ Below w.heap.size w w' := by
  have hk := Kept.refl w
  have H1 := Lib.hid h1
  have HU := Lib.hid (next_up neg odd 1 (by omega) (by omega))
  have HD := Lib.hid (next_down neg odd 1 (by omega) (by omega))
  clear h1
  cases neg
  all_goals
    go_enter Try.func4, Try.ntmps4
    go_wp2_with (first
      | (go_at_call 18; refine (Calls.known true (by first | exact H1.out | exact next_none _ _ _ | exact next_zero _ _ _ | exact HU.out | exact HD.out) (Next_any _ _ _ _ (by omega) (by omega) _)).mono ?_; rintro e w' ⟨rfl, hb⟩; replace hk := hk.step hb)
      | (go_at_call 18; refine (Calls.known false (by first | exact H1.out | exact next_none _ _ _ | exact next_zero _ _ _ | exact HU.out | exact HD.out) (Next_any _ _ _ _ (by omega) (by omega) _)).mono ?_; rintro e w' ⟨rfl, hb⟩; replace hk := hk.step hb)
      | (go_at_call 17; refine (goes13_any _).mono ?_; rintro e w' ⟨rfl, hb⟩; replace hk := hk.step hb))
    go_ret
    exact ⟨rfl, hk.below⟩
set_option maxHeartbeats 400000 in
theorem ModeOrder_1_true (m : Int) (neg odd : Bool) (r : Int) (hm : 0 ≤ m) (hr0 : 0 ≤ r) (hr : r % 4 = 1) (h1 : nextB m neg odd 1 = true) (w : World) :
    Calls Try.prog 4 #[.int .u8 m, .bool neg, .bool odd, .int .u8 r] w fun e w' => e = .returned (.bool true) ∧ Below w.heap.size w w' := by
  have hk := Kept.refl w
  have H1 := Lib.hid h1
  have HU := Lib.hid (next_up neg odd 1 (by omega) (by omega))
  have HD := Lib.hid (next_down neg odd 1 (by omega) (by omega))
  have H2 := Lib.hid (next_more m neg odd 1 (by omega) (by omega) h1)
  clear h1
  cases neg
  all_goals
    go_enter Try.func4, Try.ntmps4
    go_wp2_with (first
      | (go_at_call 18; refine (Calls.known true (by first | exact H1.out | exact next_none _ _ _ | exact next_zero _ _ _ | exact HU.out | exact HD.out | exact H2.out) (Next_any _ _ _ _ (by omega) (by omega) _)).mono ?_; rintro e w' ⟨rfl, hb⟩; replace hk := hk.step hb)
      | (go_at_call 18; refine (Calls.known false (by first | exact H1.out | exact next_none _ _ _ | exact next_zero _ _ _ | exact HU.out | exact HD.out | exact H2.out) (Next_any _ _ _ _ (by omega) (by omega) _)).mono ?_; rintro e w' ⟨rfl, hb⟩; replace hk := hk.step hb)
      | (go_at_call 17; refine (goes13_any _).mono ?_; rintro e w' ⟨rfl, hb⟩; replace hk := hk.step hb))
    go_ret
    exact ⟨rfl, hk.below⟩
set_option maxHeartbeats 400000 in
theorem ModeOrder_2_false (m : Int) (neg odd : Bool) (r : Int) (hm : 0 ≤ m) (hr0 : 0 ≤ r) (hr : r % 4 = 2) (h1 : nextB m neg odd 2 = false) (w : World) :
    Calls Try.prog 4 #[.int .u8 m, .bool neg, .bool odd, .int .u8 r] w fun e w' => e = .returned (.bool true) ∧ Below w.heap.size w w' := by
  have hk := Kept.refl w
  have H1 := Lib.hid h1
  have HU := Lib.hid (next_up neg odd 2 (by omega) (by omega))
  have HD := Lib.hid (next_down neg odd 2 (by omega) (by omega))
  clear h1
  cases neg
  all_goals
    go_enter Try.func4, Try.ntmps4
    go_wp2_with (first
      | (go_at_call 18; refine (Calls.known true (by first | exact H1.out | exact next_none _ _ _ | exact next_zero _ _ _ | exact HU.out | exact HD.out) (Next_any _ _ _ _ (by omega) (by omega) _)).mono ?_; rintro e w' ⟨rfl, hb⟩; replace hk := hk.step hb)
      | (go_at_call 18; refine (Calls.known false (by first | exact H1.out | exact next_none _ _ _ | exact next_zero _ _ _ | exact HU.out | exact HD.out) (Next_any _ _ _ _ (by omega) (by omega) _)).mono ?_; rintro e w' ⟨rfl, hb⟩; replace hk := hk.step hb)
      | (go_at_call 17; refine (goes13_any _).mono ?_; rintro e w' ⟨rfl, hb⟩; replace hk := hk.step hb))
    go_ret
    exact ⟨rfl, hk.below⟩
set_option maxHeartbeats 400000 in
theorem ModeOrder_2_true (m : Int) (neg odd : Bool) (r : Int) (hm : 0 ≤ m) (hr0 : 0 ≤ r) (hr : r % 4 = 2) (h1 : nextB m neg odd 2 = true) (w : World) :
    Calls Try.prog 4 #[.int .u8 m, .bool neg, .bool odd, .int .u8 r] w fun e w' => e = .returned (.bool true) ∧ Below w.heap.size w w' := by
  have hk := Kept.refl w
  have H1 := Lib.hid h1
  have HU := Lib.hid (next_up neg odd 2 (by omega) (by omega))
  have HD := Lib.hid (next_down neg odd 2 (by omega) (by omega))
  have H2 := Lib.hid (next_more m neg odd 2 (by omega) (by omega) h1)
  clear h1
  cases neg
  all_goals
    go_enter Try.func4, Try.ntmps4
    go_wp2_with (first
      | (go_at_call 18; refine (Calls.known true (by first | exact H1.out | exact next_none _ _ _ | exact next_zero _ _ _ | exact HU.out | exact HD.out | exact H2.out) (Next_any _ _ _ _ (by omega) (by omega) _)).mono ?_; rintro e w' ⟨rfl, hb⟩; replace hk := hk.step hb)
      | (go_at_call 18; refine (Calls.known false (by first | exact H1.out | exact next_none _ _ _ | exact next_zero _ _ _ | exact HU.out | exact HD.out | exact H2.out) (Next_any _ _ _ _ (by omega) (by omega) _)).mono ?_; rintro e w' ⟨rfl, hb⟩; replace hk := hk.step hb)
      | (go_at_call 17; refine (goes13_any _).mono ?_; rintro e w' ⟨rfl, hb⟩; replace hk := hk.step hb))
    go_ret
    exact ⟨rfl, hk.below⟩
set_option maxHeartbeats 400000 in
theorem ModeOrder_3_false (m : Int) (neg odd : Bool) (r : Int) (hm : 0 ≤ m) (hr0 : 0 ≤ r) (hr : r % 4 = 3) (h1 : nextB m neg odd 3 = false) (w : World) :
    Calls Try.prog 4 #[.int .u8 m, .bool neg, .bool odd, .int .u8 r] w fun e w' => e = .returned (.bool true) ∧ Below w.heap.size w w' := by
  have hk := Kept.refl w
  have H1 := Lib.hid h1
  have HU := Lib.hid (next_up neg odd 3 (by omega) (by omega))
  have HD := Lib.hid (next_down neg odd 3 (by omega) (by omega))
  clear h1
  cases neg
  all_goals
    go_enter Try.func4, Try.ntmps4
    go_wp2_with (first
      | (go_at_call 18; refine (Calls.known true (by first | exact H1.out | exact next_none _ _ _ | exact next_zero _ _ _ | exact HU.out | exact HD.out) (Next_any _ _ _ _ (by omega) (by omega) _)).mono ?_; rintro e w' ⟨rfl, hb⟩; replace hk := hk.step hb)
      | (go_at_call 18; refine (Calls.known false (by first | exact H1.out | exact next_none _ _ _ | exact next_zero _ _ _ | exact HU.out | exact HD.out) (Next_any _ _ _ _ (by omega) (by omega) _)).mono ?_; rintro e w' ⟨rfl, hb⟩; replace hk := hk.step hb)
      | (go_at_call 17; refine (goes13_any _).mono ?_; rintro e w' ⟨rfl, hb⟩; replace hk := hk.step hb))
    go_ret
    exact ⟨rfl, hk.below⟩
set_option maxHeartbeats 400000 in
theorem ModeOrder_3_true (m : Int) (neg odd : Bool) (r : Int) (hm : 0 ≤ m) (hr0 : 0 ≤ r) (hr : r % 4 = 3) (h1 : nextB m neg odd 3 = true) (w : World) :
    Calls Try.prog 4 #[.int .u8 m, .bool neg, .bool odd, .int .u8 r] w fun e w' => e = .returned (.bool true) ∧ Below w.heap.size w w' := by
  have hk := Kept.refl w
  have H1 := Lib.hid h1
  have HU := Lib.hid (next_up neg odd 3 (by omega) (by omega))
  have HD := Lib.hid (next_down neg odd 3 (by omega) (by omega))
  clear h1
  cases neg
  all_goals
    go_enter Try.func4, Try.ntmps4
    go_wp2_with (first
      | (go_at_call 18; refine (Calls.known true (by first | exact H1.out | exact next_none _ _ _ | exact next_zero _ _ _ | exact HU.out | exact HD.out) (Next_any _ _ _ _ (by omega) (by omega) _)).mono ?_; rintro e w' ⟨rfl, hb⟩; replace hk := hk.step hb)
      | (go_at_call 18; refine (Calls.known false (by first | exact H1.out | exact next_none _ _ _ | exact next_zero _ _ _ | exact HU.out | exact HD.out) (Next_any _ _ _ _ (by omega) (by omega) _)).mono ?_; rintro e w' ⟨rfl, hb⟩; replace hk := hk.step hb)
      | (go_at_call 17; refine (goes13_any _).mono ?_; rintro e w' ⟨rfl, hb⟩; replace hk := hk.step hb))
    go_ret
    exact ⟨rfl, hk.below⟩

theorem ModeOrder_walk (m : Int) (neg odd : Bool) (r : Int) (hm : 0 ≤ m) (hr : 0 ≤ r) (w : World) :
    Calls Try.prog 4 #[.int .u8 m, .bool neg, .bool odd, .int .u8 r] w fun e w' => e = .returned (.bool true) ∧ Below w.heap.size w w' := by
  have : r % 4 = 0 ∨ r % 4 = 1 ∨ r % 4 = 2 ∨ r % 4 = 3 := by omega
  rcases this with h | h | h | h
  · exact ModeOrder_0_false m neg odd r hm hr h w
  · cases hb : nextB m neg odd 1
    · exact ModeOrder_1_false m neg odd r hm hr h hb w
    · exact ModeOrder_1_true m neg odd r hm hr h hb w
  · cases hb : nextB m neg odd 2
    · exact ModeOrder_2_false m neg odd r hm hr h hb w
    · exact ModeOrder_2_true m neg odd r hm hr h hb w
  · cases hb : nextB m neg odd 3
    · exact ModeOrder_3_false m neg odd r hm hr h hb w
    · exact ModeOrder_3_true m neg odd r hm hr h hb w
end Go.Proofs.Ytbifpmpnfcfkkaa
