/- package root: the iterator over the bits, the highest first. -/
import Derived.RangeFuncNested
import Derived.RangeFuncBound
import Derived.RangeFuncCalls
import Derived.RangeFuncLeaves
import Derived.Shelf.Abstract
import Derived.Shelf.RegionOpen
import Derived.WalkKit
import Derived.OwnWalkIn
import Derived.TacticsInMore
import Derived.LoopNIn
import Derived.LoopIn
import Derived.Lib.Hide
import Derived.Test.YtglagdmfplgfaaaRootP
import Derived.Test.YtglagdmfplgfaaaShiftQ
import Derived.Test.YtglagdmfplgfaaaKept
set_option linter.unusedVariables false
set_option linter.unusedSimpArgs false
namespace Go.Proofs.Ytglagdmfplgfaaa
open Go.RowKit Go.Shelf
attribute [local go_sem] Oper.semAt_some

theorem Left_one (i : Nat) (hi : i < 128) {z : Int} (hz : z = (i : Int)) (w : World) :
    Calls Try.prog 11 #[.agg #[.int .u64 0, .int .u64 1], .int .i64 z] w fun e w' => e = .returned (bitsV (2 ^ i)) ∧ Below w.heap.size w w' := by
  have h : left128 (val2 1 0) z = 2 ^ i := by
    unfold left128
    rw [hz, show val2 1 0 = 1 from rfl, Nat.one_mul, Int.toNat_natCast, Nat.mod_eq_of_lt (Nat.pow_lt_pow_right (by omega) hi)]
  exact calls_to (Left_at (IsBits.val u64_zero (U64.mk' (by omega) (by omega))) z (by omega) (by omega) w) (by rw [h])
theorem grown_of_below {A B : World} (h : Below A.heap.size A B) : A.grownBy B none := ⟨h.os, h.tape, h.output, h.size, fun k hk _ => h.block k hk⟩
set_option maxRecDepth 100000 in
set_option maxHeartbeats 2000000 in
theorem bits1_in (n : Nat) (hn : 1 ≤ n) (l n₀ : Nat) (J Jx : List (Fin 128) → World → Prop) (B : Nat) (hJ : AbidesFrom B J)
    (hY : ∀ pre x W, J pre W → pre.length < 128 → YieldAt Fence.wide (n - 1) Try.prog l #[bitsV (2 ^ (127 - x.val))] W fun e W' =>
      (e = .returned (.bool true) ∧ J (pre ++ [x]) W' ∧ Below n₀ W W') ∨ (e = .returned (.bool false) ∧ Jx (pre ++ [x]) W'))
    (W : World) (h0 : J [] W) :
    CallsIn Fence.wide n Try.prog 86 #[.func (.yield l) #[] #[]] W fun e W' => (∃ v, e = .returned v) ∧
      ((∃ ys, ys = first128 128 ∧ J ys W') ∨ (∃ pre, (∃ k, k ≤ 128 ∧ pre = first128 k) ∧ Jx pre W')) := by
  refine callsIn_of_wp Try.func86 rfl trivial ?_ rfl
  simp only [Try.ntmps86, List.size_toArray, List.length_cons, List.length_nil, Nat.reduceAdd, Nat.reduceSub, Array.replicate_succ, Array.replicate_zero, List.push_toArray, List.append_toArray, List.nil_append, List.cons_append]
  gi_wp2
  gi_loopw [2] (fun i wr => ∃ k : Nat, k ≤ 128 ∧ i = .int .i64 (127 - (k : Int)) ∧ J (first128 k) wr)
    (fun i _ => (intOf i + 1).toNat)
  case atStart => exact ⟨0, Nat.zero_le _, rfl, h0⟩
  case round =>
    obtain ⟨k, hk, rfl, hJs⟩ := hrel
    by_cases hlt : k < 128
    · have g0 : (0 : Int) ≤ 127 - (k : Int) := by omega
      have g1 : (k : Int) ≤ 127 := by omega
      gi_wp2_with fail
      refine ⟨trivial, ?_⟩
      refine (callsIn_wide.2 (Left_one (127 - k) (by omega) (by omega) _)).mono ?_
      rintro e w1 ⟨rfl, hb⟩
      have hJ1 := hJ _ _ _ none hJs (grown_of_below hb) (fun r e => by cases e)
      obtain ⟨fn, tmps, assign, body, hy, hR⟩ := hY _ ⟨k, hlt⟩ w1 hJ1 (by rw [first128_length hk]; exact hlt)
      dsimp only at hy
      clear hb hJs
      gi_wp2
      refine hR.mono ?_
      rintro e W3 (⟨rfl, hJ3, hk3⟩ | ⟨rfl, hJx3⟩)
      · gi_wp2
        go_roundw
        case rel => exact ⟨k + 1, by omega, by simp; omega, by rw [first128_succ hlt]; exact hJ3⟩
        case measure => simp [intOf]; omega
      · gi_wp2
        go_end0
        exact ⟨⟨_, rfl⟩, .inr ⟨_, ⟨k + 1, by omega, (first128_succ hlt).symm⟩, hJx3⟩⟩
    · have hge : (127 : Int) - k < 0 := by omega
      have hge2 : ¬ (k : Int) ≤ 127 := by omega
      have H4 := Lib.hid (show first128 k = first128 128 by rw [show k = 128 by omega])
      clear hk hlt
      gi_wp2
      refine ⟨trivial, ?_⟩
      gi_wp2
      refine ⟨fun _ h => (by cases h), ?_⟩
      gi_wp2
      go_end0
      exact ⟨⟨_, rfl⟩, .inl ⟨_, H4.out, hJs⟩⟩

theorem bits_stops (n : Nat) (hn : 1 ≤ n) (n₀ : Nat) (w : World) :
    SeqStopsK Fence.wide n Try.prog 86 #[] (fun x : Fin 128 => #[bitsV (2 ^ (127 - x.val))]) (Below n₀) (fun ys => ys = first128 128) (fun pre => ∃ k, k ≤ 128 ∧ pre = first128 k) 128 w := fun l J Jx W hB hJ _ hY h0 => by
  refine (bits1_in n hn l n₀ J Jx _ hJ hY W h0).mono ?_
  rintro e W' ⟨he, h⟩
  exact ⟨he, h⟩

set_option maxRecDepth 100000 in
theorem bits_in (n : Nat) (w : World) :
    CallsIn Fence.wide n Try.prog 66 #[] w fun e w' => e = .returned (.func (.func 86) #[] #[]) ∧ w = w' := by
  refine callsIn_of_wp Try.func66 rfl trivial ?_ rfl
  simp only [Try.ntmps66, List.size_toArray, List.length_cons, List.length_nil, Nat.reduceAdd, Nat.reduceSub, Array.replicate_succ, Array.replicate_zero, List.push_toArray, List.append_toArray, List.nil_append, List.cons_append]
  gi_wp2
  go_ret
  exact ⟨rfl, rfl⟩
end Go.Proofs.Ytglagdmfplgfaaa
