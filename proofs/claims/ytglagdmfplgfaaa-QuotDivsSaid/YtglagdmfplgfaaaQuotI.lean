/- package quot: the iterator over a number's bits. -/
import Derived.RangeFuncNested
import Derived.RangeFuncBound
import Derived.RangeFuncCalls
import Derived.RangeFuncLeaves
import Derived.Shelf.Abstract
import Derived.Shelf.RegionOpen
import Derived.WalkKit
import Derived.OwnWalkIn
import Derived.TacticsInMore
import Derived.LoopNIn
import Derived.LoopIn
import Derived.Lib.Hide
import Derived.Test.YtglagdmfplgfaaaChain
import Derived.Test.YtglagdmfplgfaaaQuotP
set_option linter.unusedVariables false
set_option linter.unusedSimpArgs false
namespace Go.Proofs.Ytglagdmfplgfaaa
open Go.RowKit Go.Shelf
attribute [local go_sem] Oper.semAt_some

/-- what the loop over a number's bits asks of a round: the number's cells stay -/
def KpQ (b : Nat) (f : Nat → Int) (X Y : World) : Prop := Four b f X → Four b f Y
theorem kpQ_t {b : Nat} {f : Nat → Int} {A B C : World} (h : KpQ b f A B) (k : KpQ b f B C) : KpQ b f A C := fun x => k (h x)
theorem kpQ_b {b : Nat} {f : Nat → Int} (W : World) (l : Nat) (o o' : Obj) (h : W.heap[l]? = some o) (hc : o.isCells = false) : KpQ b f W (W.putObj l o') :=
  fun x => x.kept (grownBy_putObj' W l o') (fun r e => by cases e; exact ⟨o, h, hc⟩)
/-- a place's value, and what stands there -/
def placeV (A : Nat) (x : Fin 256) : Array Value := #[.int .i64 (255 - (x.val : Int)), .int .u64 (bitN A (255 - x.val) : Int)]
theorem and_bit (A i : Nat) : bits .and .u64 (limb (i / 64) A / 2 ^ (i % 64)) 1 = (bitN A i : Int) := by
  rw [and_one, bit_part]
  have h := limb_u64 (i / 64) A
  have hp : (0 : Int) < 2 ^ (i % 64) := Int.pow_pos (by omega)
  refine ⟨Int.ediv_nonneg h.lo (Int.le_of_lt hp), Int.lt_of_le_of_lt (Int.ediv_le_self _ h.lo) h.hi⟩
set_option maxRecDepth 100000 in
set_option maxHeartbeats 2000000 in
theorem digits1_in (F : Fence) (n : Nat) (h7 : F.fn 91) (hro : F.round = none) (hn : 1 ≤ n) (l b A : Nat) (J Jx : List (Fin 256) → World → Prop)
    (hY : ∀ pre x W, J pre W → pre.length < 256 → YieldAt F (n - 1) Try.prog l (placeV A x) W fun e W' =>
      (e = .returned (.bool true) ∧ J (pre ++ [x]) W' ∧ KpQ b (fun i => limb i A) W W') ∨ (e = .returned (.bool false) ∧ Jx (pre ++ [x]) W'))
    (W : World) (h0 : J [] W) (hc : Four b (fun i => limb i A) W) :
    CallsIn F n Try.prog 91 #[.func (.yield l) #[] #[], .pointer (some ⟨b, 0, none⟩)] W fun e W' => (∃ v, e = .returned v) ∧
      ((∃ ys, ys = first256 256 ∧ J ys W') ∨ (∃ pre, (∃ k, k ≤ 256 ∧ pre = first256 k) ∧ Jx pre W')) := by
  refine callsIn_of_wp Try.func91 rfl h7 ?_ hro
  simp only [Try.ntmps91, List.size_toArray, List.length_cons, List.length_nil, Nat.reduceAdd, Nat.reduceSub, Array.replicate_succ, Array.replicate_zero, List.push_toArray, List.append_toArray, List.nil_append, List.cons_append]
  gi_wp2
  gi_loopw [3] (fun i wr => ∃ k : Nat, k ≤ 256 ∧ i = .int .i64 (255 - (k : Int)) ∧ J (first256 k) wr ∧ Four b (fun i => limb i A) wr)
    (fun i _ => (intOf i + 1).toNat)
  case atStart => exact ⟨0, Nat.zero_le _, rfl, h0, hc⟩
  case round =>
    obtain ⟨k, hk, rfl, hJs, hnx⟩ := hrel
    by_cases hlt : k < 256
    · obtain ⟨fn, tmps, assign, body, hy, hR⟩ := hY _ ⟨k, hlt⟩ wr hJs (by rw [first256_length hk]; exact hlt)
      have cell := hnx ((255 - k) / 64) (by omega)
      have hand := and_bit A (255 - k)
      unfold placeV at hy
      dsimp only at hy cell hand
      have e1 : bits .and .i64 (255 - (k : Int)) 63 = (((255 - k) % 64 : Nat) : Int) := by rw [and63]; omega
      have e2 : (255 - (k : Int)) / 64 = (((255 - k) / 64 : Nat) : Int) := by omega
      have g0 : (0 : Int) ≤ 255 - (k : Int) := by omega
      have g3 : ((255 - k) / 64 : Nat) < 4 := by omega
      have g4 : ((255 - k) % 64 : Nat) < 64 := by omega
      generalize (255 - k) / 64 = q at *
      generalize (255 - k) % 64 = s at *
      generalize (bitN A (255 - k) : Int) = bb at *
      gi_wp2
      refine hR.mono ?_
      rintro e W3 (⟨rfl, hJ3, hk3⟩ | ⟨rfl, hJx3⟩)
      · gi_wp2
        go_roundw
        case rel => exact ⟨k + 1, by omega, by simp; omega, by rw [first256_succ hlt]; exact hJ3, hk3 hnx⟩
        case measure => simp [intOf]; omega
      · gi_wp2
        refine bodyPost_ret (v := .tuple #[]) (results_none (by rfl) _ _ _) rfl ?_
        exact ⟨⟨_, rfl⟩, .inr ⟨_, ⟨k + 1, by omega, (first256_succ hlt).symm⟩, hJx3⟩⟩
    · have hge : (255 : Int) - k < 0 := by omega
      have H4 := Lib.hid (show first256 k = first256 256 by rw [show k = 256 by omega])
      clear hk hlt
      gi_wp2
      go_end0
      exact ⟨⟨_, rfl⟩, .inl ⟨_, H4.out, hJs⟩⟩

theorem digits_stops (F : Fence) (n : Nat) (h7 : F.fn 91) (hro : F.round = none) (hn : 1 ≤ n) (b A : Nat) (w : World) (hb : b < w.heap.size) (hc : Four b (fun i => limb i A) w) :
    SeqStopsK F n Try.prog 91 #[.pointer (some ⟨b, 0, none⟩)] (placeV A) (KpQ b (fun i => limb i A)) (fun ys => ys = first256 256) (fun pre => ∃ k, k ≤ 256 ∧ pre = first256 k) 256 w := fun l J Jx W hB _ _ hY h0 => by
  refine (digits1_in F n h7 hro hn l b A J Jx hY W h0 (fun i hi => (hB.cell (p := ⟨b, i, none⟩) hb).trans (hc i hi))).mono ?_
  rintro e W' ⟨he, h⟩
  exact ⟨he, h⟩

set_option maxRecDepth 100000 in
theorem digits_in (F : Fence) (n : Nat) (h5 : F.fn 73) (hro : F.round = none) (A : Nat) (w : World) :
    CallsIn F n Try.prog 73 #[wideV A] w fun e w' => e = .returned (.func (.func 91) #[] #[.pointer (some ⟨w.heap.size, 0, none⟩)]) ∧ Below w.heap.size w w' ∧ Box w' w.heap.size #[.int .u64 (limb 0 A), .int .u64 (limb 1 A), .int .u64 (limb 2 A), .int .u64 (limb 3 A)] := by
  refine callsIn_of_wp Try.func73 rfl h5 ?_ hro
  simp only [Try.ntmps73, List.size_toArray, List.length_cons, List.length_nil, Nat.reduceAdd, Nat.reduceSub, Array.replicate_succ, Array.replicate_zero, List.push_toArray, List.append_toArray, List.nil_append, List.cons_append]
  gi_wp2
  go_ret
  exact ⟨rfl, (Below.refl _ w).alloc (Nat.le_refl _) _, Box.newAt rfl⟩
end Go.Proofs.Ytglagdmfplgfaaa
