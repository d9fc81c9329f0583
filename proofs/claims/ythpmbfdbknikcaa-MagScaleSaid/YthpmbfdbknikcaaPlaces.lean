/- The iterator of package wide over the four places: its contract. -/
import Derived.RangeFuncNested
import Derived.RangeFuncBound
import Derived.RangeFuncCalls
import Derived.RangeFuncLeaves
import Derived.Shelf.Abstract
import Derived.Shelf.RegionOpen
import Derived.WalkKit
import Derived.OwnWalkIn
import Derived.TacticsInMore
import Derived.LoopNIn
import Derived.LoopIn
import Derived.Lib.Hide
import Derived.Test.YthpmbfdbknikcaaRows
set_option linter.unusedVariables false
set_option linter.unusedSimpArgs false
namespace Go.Proofs.Ythpmbfdbknikcaa
open Go.RowKit Go.Shelf
attribute [local go_sem] Oper.semAt_some

/-- the first k of the four places -/
def fourth (k : Nat) : List (Fin 4) := (List.finRange 4).take k
theorem fourth_succ {k : Nat} (h : k < 4) : fourth (k + 1) = fourth k ++ [⟨k, h⟩] := by
  unfold fourth
  rw [List.take_succ_eq_append_getElem (by simpa using h)]; simp
theorem fourth_length {k : Nat} (h : k ≤ 4) : (fourth k).length = k := by unfold fourth; simp; omega

set_option maxRecDepth 100000 in
set_option maxHeartbeats 2000000 in
theorem places1_in (F : Fence) (n : Nat) (h7 : F.fn 87) (hro : F.round = none) (hn : 1 ≤ n) (l n₀ : Nat) (J Jx : List (Fin 4) → World → Prop)
    (hY : ∀ pre x W, J pre W → pre.length < 4 → YieldAt F (n - 1) Try.prog l #[.int .i64 (x.val : Int)] W fun e W' =>
      (e = .returned (.bool true) ∧ J (pre ++ [x]) W' ∧ Below n₀ W W') ∨ (e = .returned (.bool false) ∧ Jx (pre ++ [x]) W'))
    (W : World) (h0 : J [] W) :
    CallsIn F n Try.prog 87 #[.func (.yield l) #[] #[]] W fun e W' => (∃ v, e = .returned v) ∧
      ((∃ ys, ys = fourth 4 ∧ J ys W') ∨ (∃ pre, (∃ k, k ≤ 4 ∧ pre = fourth k) ∧ Jx pre W')) := by
  refine callsIn_of_wp Try.func87 rfl h7 ?_ hro
  simp only [Try.ntmps87, List.size_toArray, List.length_cons, List.length_nil, Nat.reduceAdd, Nat.reduceSub, Array.replicate_succ, Array.replicate_zero, List.push_toArray, List.append_toArray, List.nil_append, List.cons_append]
  gi_wp2
  gi_loopw [2] (fun i wr => ∃ k : Nat, k ≤ 4 ∧ i = .int .i64 k ∧ J (fourth k) wr ∧ Below n₀ W wr)
    (fun i _ => 4 - (intOf i).toNat)
  case atStart => exact ⟨0, Nat.zero_le _, rfl, h0, Below.refl _ _⟩
  case round =>
    obtain ⟨k, hk, rfl, hJs, hnx⟩ := hrel
    by_cases hlt : k < 4
    · obtain ⟨fn, tmps, assign, body, hy, hR⟩ := hY _ ⟨k, hlt⟩ wr hJs (by rw [fourth_length hk]; exact hlt)
      dsimp only at hy
      gi_wp2
      refine hR.mono ?_
      rintro e W3 (⟨rfl, hJ3, hk3⟩ | ⟨rfl, hJx3⟩)
      · gi_wp2
        go_roundw
        case rel => exact ⟨k + 1, by omega, by simp, by rw [fourth_succ hlt]; exact hJ3, hnx.trans hk3⟩
        case measure => simp [intOf]; omega
      · gi_wp2
        go_end0
        exact ⟨⟨_, rfl⟩, .inr ⟨_, ⟨k + 1, by omega, (fourth_succ hlt).symm⟩, hJx3⟩⟩
    · have hge : (4 : Int) ≤ k := by omega
      have H4 := Lib.hid (show fourth k = fourth 4 by rw [show k = 4 by omega])
      clear hk hlt
      gi_wp2
      refine ⟨fun _ h => (by cases h), ?_⟩
      gi_wp2
      go_end0
      exact ⟨⟨_, rfl⟩, .inl ⟨_, H4.out, hJs⟩⟩

theorem places_stops (F : Fence) (n : Nat) (h7 : F.fn 87) (hro : F.round = none) (hn : 1 ≤ n) (n₀ : Nat) (w : World) :
    SeqStopsK F n Try.prog 87 #[] (fun x : Fin 4 => #[Value.int .i64 (x.val : Int)]) (Below n₀) (fun ys => ys = fourth 4) (fun pre => ∃ k, k ≤ 4 ∧ pre = fourth k) 4 w := fun l J Jx W _ _ _ hY h0 => by
  refine (places1_in F n h7 hro hn l n₀ J Jx hY W h0).mono ?_
  rintro e W' ⟨he, h⟩
  exact ⟨he, h⟩
end Go.Proofs.Ythpmbfdbknikcaa
