/- Packages word and wide: their contracts. -/
import Derived.RangeFuncNested
import Derived.RangeFuncBound
import Derived.RangeFuncCalls
import Derived.RangeFuncLeaves
import Derived.Shelf.Abstract
import Derived.Shelf.RegionOpen
import Derived.WalkKit
import Derived.OwnWalkIn
import Derived.TacticsInMore
import Derived.LoopNIn
import Derived.LoopIn
import Derived.Lib.Hide
import Derived.Test.YtpfoifflfgiaoaaGreatDoorRows
import Derived.Test.YtpfoifflfgiaoaaGreatDoorK01
import Derived.Laws.Externs
import Derived.Shelf.Spec.BitsCarry
import Derived.Outline
import Derived.Shelf.Bits.Mul64
import Derived.WalkSpells
import Derived.WalkLawsBesides
import Derived.StillTailTactics
import Derived.LoopN
import Derived.Laws.StructEq
import Derived.Deep.RegionHeld3
set_option linter.unusedVariables false
set_option linter.unusedSimpArgs false
namespace Go.Proofs.YtpfoifflfgiaoaaGreatDoor
open Go.RowKit Go.Shelf
attribute [local go_sem] Oper.semAt_some

/-- the first k of the four places -/
def fourth (k : Nat) : List (Fin 4) := (List.finRange 4).take k
theorem fourth_succ {k : Nat} (h : k < 4) : fourth (k + 1) = fourth k ++ [⟨k, h⟩] := by
  unfold fourth
  rw [List.take_succ_eq_append_getElem (by simpa using h)]; simp
theorem fourth_length {k : Nat} (h : k ≤ 4) : (fourth k).length = k := by unfold fourth; simp; omega

set_option maxRecDepth 100000 in
set_option maxHeartbeats 2000000 in
theorem places1_in (F : Fence) (n : Nat) (h7 : F.fn 269) (hro : F.round = none) (hn : 1 ≤ n) (l n₀ : Nat) (J Jx : List (Fin 4) → World → Prop)
    (hY : ∀ pre x W, J pre W → pre.length < 4 → YieldAt F (n - 1) Tryz.prog l #[.int .i64 (x.val : Int)] W fun e W' =>
      (e = .returned (.bool true) ∧ J (pre ++ [x]) W' ∧ Below n₀ W W') ∨ (e = .returned (.bool false) ∧ Jx (pre ++ [x]) W'))
    (W : World) (h0 : J [] W) :
    CallsIn F n Tryz.prog 269 #[.func (.yield l) #[] #[]] W fun e W' => (∃ v, e = .returned v) ∧
      ((∃ ys, ys = fourth 4 ∧ J ys W') ∨ (∃ pre, (∃ k, k ≤ 4 ∧ pre = fourth k) ∧ Jx pre W')) := by
  refine callsIn_of_wp Tryz.func269 rfl h7 ?_ hro
  simp only [Tryz.ntmps269, List.size_toArray, List.length_cons, List.length_nil, Nat.reduceAdd, Nat.reduceSub, Array.replicate_succ, Array.replicate_zero, List.push_toArray, List.append_toArray, List.nil_append, List.cons_append]
  gi_wp2
  gi_loopw [2] (fun i wr => ∃ k : Nat, k ≤ 4 ∧ i = .int .i64 k ∧ J (fourth k) wr ∧ Below n₀ W wr)
    (fun i _ => 4 - (intOf i).toNat)
  case atStart => exact ⟨0, Nat.zero_le _, rfl, h0, Below.refl _ _⟩
  case round =>
    obtain ⟨k, hk, rfl, hJs, hnx⟩ := hrel
    by_cases hlt : k < 4
    · obtain ⟨fn, tmps, assign, body, hy, hR⟩ := hY _ ⟨k, hlt⟩ wr hJs (by rw [fourth_length hk]; exact hlt)
      dsimp only at hy
      gi_wp2
      refine hR.mono ?_
      rintro e W3 (⟨rfl, hJ3, hk3⟩ | ⟨rfl, hJx3⟩)
      · gi_wp2
        go_roundw
        case rel => exact ⟨k + 1, by omega, by simp, by rw [fourth_succ hlt]; exact hJ3, hnx.trans hk3⟩
        case measure => simp [intOf]; omega
      · gi_wp2
        go_end0
        exact ⟨⟨_, rfl⟩, .inr ⟨_, ⟨k + 1, by omega, (fourth_succ hlt).symm⟩, hJx3⟩⟩
    · have hge : (4 : Int) ≤ k := by omega
      have H4 := Lib.hid (show fourth k = fourth 4 by rw [show k = 4 by omega])
      clear hk hlt
      gi_wp2
      refine ⟨fun _ h => (by cases h), ?_⟩
      gi_wp2
      go_end0
      exact ⟨⟨_, rfl⟩, .inl ⟨_, H4.out, hJs⟩⟩

theorem places_stops (F : Fence) (n : Nat) (h7 : F.fn 269) (hro : F.round = none) (hn : 1 ≤ n) (n₀ : Nat) (w : World) :
    SeqStopsK F n Tryz.prog 269 #[] (fun x : Fin 4 => #[Value.int .i64 (x.val : Int)]) (Below n₀) (fun ys => ys = fourth 4) (fun pre => ∃ k, k ≤ 4 ∧ pre = fourth k) 4 w := fun l J Jx W _ _ _ hY h0 => by
  refine (places1_in F n h7 hro hn l n₀ J Jx hY W h0).mono ?_
  rintro e W' ⟨he, h⟩
  exact ⟨he, h⟩
end Go.Proofs.YtpfoifflfgiaoaaGreatDoor
namespace Go.Proofs.YtpfoifflfgiaoaaGreatDoor
open Go.RowKit

def sumI (x y c : Int) : Int := (x + y + c) % 2 ^ 64
def carI (x y c : Int) : Int := (x + y + c) / 2 ^ 64
def difI (x y c : Int) : Int := (x - y - c) % 2 ^ 64
def borI (x y c : Int) : Int := if x < y + c then 1 else 0

theorem carI_bit {x y c : Int} (hx : U64 x) (hy : U64 y) (h0 : 0 ≤ c) (h1 : c ≤ 1) : 0 ≤ carI x y c ∧ carI x y c ≤ 1 := by
  have := hx.lo; have := hx.hi; have := hy.lo; have := hy.hi
  unfold carI; omega
theorem borI_bit (x y c : Int) : 0 ≤ borI x y c ∧ borI x y c ≤ 1 := by unfold borI; split <;> omega

theorem add64_run {x y c : Int} (hx : U64 x) (hy : U64 y) (h0 : 0 ≤ c) (h1 : c ≤ 1) (w : World) :
    (callFunc 177 #[.int .u64 x, .int .u64 y, .int .u64 c]).run Tryz.prog w = .ok (.value (.tuple #[.int .u64 (sumI x y c), .int .u64 (carI x y c)])) w := by
  obtain ⟨x, rfl⟩ := Int.eq_ofNat_of_zero_le hx.lo
  obtain ⟨y, rfl⟩ := Int.eq_ofNat_of_zero_le hy.lo
  obtain ⟨c, rfl⟩ := Int.eq_ofNat_of_zero_le h0
  rw [run_callFunc_extern Tryz.func177 (by kernel_rfl) (by kernel_rfl) (by kernel_rfl) (e := add64Entry) (by kernel_rfl), run_add64 x y c (by omega) (by omega) (by omega) (by omega)]
  simp only [Result.andThen, sumI, carI]
  congr 5 <;> omega
theorem sub64_run {x y c : Int} (hx : U64 x) (hy : U64 y) (h0 : 0 ≤ c) (h1 : c ≤ 1) (w : World) :
    (callFunc 178 #[.int .u64 x, .int .u64 y, .int .u64 c]).run Tryz.prog w = .ok (.value (.tuple #[.int .u64 (difI x y c), .int .u64 (borI x y c)])) w := by
  have hxl := hx.lo
  have hxh := hx.hi
  have hyl := hy.lo
  have hyh := hy.hi
  obtain ⟨x, rfl⟩ := Int.eq_ofNat_of_zero_le hxl
  obtain ⟨y, rfl⟩ := Int.eq_ofNat_of_zero_le hyl
  obtain ⟨c, rfl⟩ := Int.eq_ofNat_of_zero_le h0
  rw [run_callFunc_extern Tryz.func178 (by kernel_rfl) (by kernel_rfl) (by kernel_rfl) (e := sub64Entry) (by kernel_rfl), run_sub64 x y c (by omega)]
  have e1 : ((x + 18446744073709551616 - y - c) % 18446744073709551616 : Nat) = difI x y c := by unfold difI; omega
  have e2 : ((if x < y + c then 1 else 0 : Nat) : Int) = borI x y c := by
    unfold borI
    by_cases h : x < y + c
    · rw [if_pos h, if_pos (by omega)]; rfl
    · rw [if_neg h, if_neg (by omega)]; rfl
  rw [e1, e2]; rfl
end Go.Proofs.YtpfoifflfgiaoaaGreatDoor
namespace Go.Proofs.YtpfoifflfgiaoaaGreatDoor
open Go.RowKit Go.Shelf
attribute [local go_sem] Oper.semAt_some

theorem places_in (F : Fence) (n : Nat) (h5 : F.fn 239) (hro : F.round = none) (w : World) :
    CallsIn F n Tryz.prog 239 #[] w fun e w' => e = .returned (.func (.func 269) #[] #[]) ∧ w = w' := by
  refine callsIn_of_wp Tryz.func239 rfl h5 ?_ hro
  simp only [Tryz.ntmps239, List.size_toArray, List.length_cons, List.length_nil, Nat.reduceAdd, Nat.reduceSub, Array.replicate_succ, Array.replicate_zero, List.push_toArray, List.append_toArray, List.nil_append, List.cons_append]
  gi_wp2
  go_ret
  exact ⟨rfl, rfl⟩

/-- what the chain has laid behind the places of pre -/
def chSt (S C : Int → Int → Int → Int) (A B : Nat) : List (Fin 4) → (Nat → Int) × Int :=
  List.foldl (fun s x => (fun i => if i = x.val then S (limb x.val A) (limb x.val B) s.2 else s.1 i, C (limb x.val A) (limb x.val B) s.2)) (fun _ => 0, 0)
theorem chSt_snoc (S C : Int → Int → Int → Int) (A B : Nat) (pre : List (Fin 4)) (x : Fin 4) :
    chSt S C A B (pre ++ [x]) = (fun i => if i = x.val then S (limb x.val A) (limb x.val B) (chSt S C A B pre).2 else (chSt S C A B pre).1 i, C (limb x.val A) (limb x.val B) (chSt S C A B pre).2) := by
  unfold chSt; rw [List.foldl_append]; rfl
/-- four cells, read alone; and written too -/
def Four (b : Nat) (f : Nat → Int) (W : World) : Prop := ∀ i, i < 4 → W.cell? ⟨b, i, none⟩ = some (.int .u64 (f i))
def FourW (b : Nat) (f : Nat → Int) (W : World) : Prop := ∀ i, i < 4 → W.cell? ⟨b, i, none⟩ = some (.int .u64 (f i)) ∧ W.frozen? ⟨b, i, none⟩ = false
theorem Four.kept {b : Nat} {f : Nat → Int} {A B : World} {row : Option Nat} (h : Four b f A) (hg : A.grownBy B row) (hr : ∀ r, row = some r → ∃ o : Obj, A.heap[r]? = some o ∧ o.isCells = false) : Four b f B :=
  fun i hi => cell_kept (h i hi) hg hr
theorem FourW.kept {b : Nat} {f : Nat → Int} {A B : World} {row : Option Nat} (h : FourW b f A) (hg : A.grownBy B row) (hr : ∀ r, row = some r → ∃ o : Obj, A.heap[r]? = some o ∧ o.isCells = false) : FourW b f B :=
  fun i hi => ⟨cell_kept (h i hi).1 hg hr, (frozen_kept (h i hi).1 hg hr).trans (h i hi).2⟩

set_option maxRecDepth 100000 in
set_option maxHeartbeats 2000000 in
theorem chain_in (F : Fence) (hW : F = Fence.wide) (n : Nat) (hn : 3 ≤ n)
    (g : Nat) (S C : Int → Int → Int → Int) (hC : ∀ x y c, U64 x → U64 y → 0 ≤ c → c ≤ 1 → 0 ≤ C x y c ∧ C x y c ≤ 1)
    (hrun : ∀ x y c w, U64 x → U64 y → 0 ≤ c → c ≤ 1 → (callFunc g #[.int .u64 x, .int .u64 y, .int .u64 c]).run Tryz.prog w = .ok (.value (.tuple #[.int .u64 (S x y c), .int .u64 (C x y c)])) w)
    (A B : Nat) (w : World) :
    CallsIn F n Tryz.prog 176 #[wideV A, wideV B, .func (.func g) #[] #[]] w fun e w' => e = .returned (.tuple #[.agg #[.int .u64 ((chSt S C A B (fourth 4)).1 0), .int .u64 ((chSt S C A B (fourth 4)).1 1), .int .u64 ((chSt S C A B (fourth 4)).1 2), .int .u64 ((chSt S C A B (fourth 4)).1 3)], .bool ((chSt S C A B (fourth 4)).2 != 0)]) ∧ Below w.heap.size w w' := by
  have h1 : 1 ≤ n := by omega
  have hfn : ∀ f, F.fn f := fun f => by rw [hW]; trivial
  have hro : F.round = none := by rw [hW]; rfl
  have h5 : F.fn 239 := hfn _
  have h6 : F.fn 269 := hfn _
  have hf : F.fn 176 := hfn _
  have HW := Lib.hid hW; clear hW hfn
  refine callsIn_of_wp_marks Tryz.func176 rfl hf ?_ hro
  simp only [Tryz.ntmps176, List.size_toArray, List.length_cons, List.length_nil, Nat.reduceAdd, Nat.reduceSub, Array.replicate_succ, Array.replicate_zero, List.push_toArray, List.append_toArray, List.nil_append, List.cons_append]
  gi_wp2_with (gi_at_call 239; refine (places_in F (n - 1) h5 hro _).mono ?_; rintro e w' ⟨rfl, rfl⟩)
  refine wpIn_rangeFunc_ownF hro h1 (gf := 269) (lb := #[]) rfl h6 (enters_of Tryz.func269 (by kernel_rfl) rfl)
    (places_stops F (n - 1) h6 hro (by omega) w.heap.size _) belowK_t (belowK_b (by simp; omega)) (Below.refl _ _) (fun _ => rfl)
    (fun pre W => (Four (w.heap.size) (fun i => limb i A) W ∧ Four (w.heap.size + 1) (fun i => limb i B) W ∧ W.cell? ⟨w.heap.size + 1 + 1, 0, none⟩ = some (.func (.func g) #[] #[]) ∧ FourW (w.heap.size + 1 + 1 + 1) (fun _ => 0) W ∧
      FourW (w.heap.size + 1 + 1 + 1 + 1) (chSt S C A B pre).1 W ∧ W.cell? ⟨w.heap.size + 1 + 1 + 1 + 1 + 1, 0, none⟩ = some (.int .u64 (chSt S C A B pre).2) ∧ W.frozen? ⟨w.heap.size + 1 + 1 + 1 + 1 + 1, 0, none⟩ = false ∧ (0 ≤ (chSt S C A B pre).2 ∧ (chSt S C A B pre).2 ≤ 1)) ∧ Below w.heap.size w W)
    (fun _ _ _ => False)
    (OwnFrom.and (Own.from (fun s X Y row hs hg hr => ⟨hs.1.kept hg hr, hs.2.1.kept hg hr, cell_kept hs.2.2.1 hg hr, hs.2.2.2.1.kept hg hr, hs.2.2.2.2.1.kept hg hr, cell_kept hs.2.2.2.2.2.1 hg hr, (frozen_kept hs.2.2.2.2.2.1 hg hr).trans hs.2.2.2.2.2.2.1, hs.2.2.2.2.2.2.2⟩) _) (ownFrom_below (Nat.le_refl _) (by simp; omega)))
    (fun _ _ _ _ _ hs _ _ => hs)
    ⟨⟨?c0, ?c1, by go_simp, ?c2, ?c3, ?c4, by go_simp, (by unfold chSt; simp)⟩, ?cB⟩
    (fun x => { tmps := #[wideV A, wideV B, .func (.func g) #[] #[], .pointer (some ⟨w.heap.size, 0, none⟩), .pointer (some ⟨w.heap.size + 1, 0, none⟩), .pointer (some ⟨w.heap.size + 1 + 1, 0, none⟩), .pointer (some ⟨w.heap.size + 1 + 1 + 1, 0, none⟩), .bool false,
      .pointer (some ⟨w.heap.size + 1 + 1 + 1 + 1, 0, none⟩), .pointer (some ⟨w.heap.size + 1 + 1 + 1 + 1 + 1, 0, none⟩), .int .i64 (x.val : Int), .func (.func 269) #[] #[], .int .i64 (x.val : Int), undef, undef, undef, undef, undef, undef, undef, undef, undef, undef, undef, undef, undef, undef, undef, undef, undef], defers := [] }) ?assign ?body ?done ?stop
  case assign =>
    intro l x W K hK
    gi_wp2
    exact hK
  case body =>
    rintro l pre ⟨x, hx⟩ W ⟨⟨hA, hB, hF, hR, hO, hc, hcf, hc01⟩, hBel⟩ _
    have hd : 1 ≤ n - 1 - 1 := by omega
    have hW := HW.out; clear HW; subst hW
    have hmx : Tryz.prog.follows .mixedOrders = true := by kernel_rfl
    have cA := hA x hx
    have cB := hB x hx
    obtain ⟨cO, cOf⟩ := hO x hx
    have hx1 : (x : Int) < 4 := by omega
    have r0 := fun w => hrun (limb x A) (limb x B) (chSt S C A B pre).2 w (limb_u64 _ _) (limb_u64 _ _) hc01.1 hc01.2
    have HA := Lib.hid hA; have HB := Lib.hid hB; have HR := Lib.hid hR; have HO := Lib.hid hO; have HRUN := Lib.hid hrun
    clear hA hB hR hO hrun
    gi_wp2
    refine round_region_head 14 (fun W' => W'.cell? ⟨w.heap.size, x, none⟩ = some (.int .u64 (limb x A)) ∧ W'.cell? ⟨w.heap.size + 1, x, none⟩ = some (.int .u64 (limb x B)) ∧ W'.cell? ⟨w.heap.size + 1 + 1, 0, none⟩ = some (.func (.func g) #[] #[]) ∧ W'.cell? ⟨w.heap.size + 1 + 1 + 1 + 1 + 1, 0, none⟩ = some (.int .u64 (chSt S C A B pre).2)) (by rintro ⟨_, _, h⟩; exact h) (by kernel_rfl) (by kernel_rfl) (by kernel_rfl) ⟨by go_simp, by go_simp, by go_simp, by go_simp⟩ ?_
    simp only [List.take_succ_cons, List.take_zero, List.drop_succ_cons, List.drop_zero]
    refine head_pure ?_ (fun _ _ _ h => h) (Or.inl ⟨by rfl, ?_⟩) ?_
    rotate_left
    · intro w; go_simp; first | done | with_reducible rfl
    simp only [Act.put, List.setIfInBounds_toArray, List.set_cons_zero, List.set_cons_succ]
    refine head_read ?_ (by kernel_rfl) (fun _ _ _ h => h) (Or.inl ⟨by rfl, ?_⟩) ?_
    rotate_left
    · intro w hS; (try dsimp only at hS); go_simp; first | done | with_reducible rfl
    simp only [Act.put, List.setIfInBounds_toArray, List.set_cons_zero, List.set_cons_succ]
    refine head_pure ?_ (fun _ _ _ h => h) (Or.inl ⟨by rfl, ?_⟩) ?_
    rotate_left
    · intro w; go_simp; first | done | with_reducible rfl
    simp only [Act.put, List.setIfInBounds_toArray, List.set_cons_zero, List.set_cons_succ]
    refine head_pure ?_ (fun _ _ _ h => h) (Or.inl ⟨by rfl, ?_⟩) ?_
    rotate_left
    · intro w; go_simp; first | done | with_reducible rfl
    simp only [Act.put, List.setIfInBounds_toArray, List.set_cons_zero, List.set_cons_succ]
    refine head_read ?_ (by kernel_rfl) (fun _ _ _ h => h) (Or.inl ⟨by rfl, ?_⟩) ?_
    rotate_left
    · intro w hS; (try dsimp only at hS); go_simp; first | done | with_reducible rfl
    simp only [Act.put, List.setIfInBounds_toArray, List.set_cons_zero, List.set_cons_succ]
    refine head_pure ?_ (fun _ _ _ h => h) (Or.inl ⟨by rfl, ?_⟩) ?_
    rotate_left
    · intro w; go_simp; first | done | with_reducible rfl
    simp only [Act.put, List.setIfInBounds_toArray, List.set_cons_zero, List.set_cons_succ]
    refine head_pure ?_ (fun _ _ _ h => h) (Or.inl ⟨by rfl, ?_⟩) ?_
    rotate_left
    · intro w; go_simp; first | done | with_reducible rfl
    simp only [Act.put, List.setIfInBounds_toArray, List.set_cons_zero, List.set_cons_succ]
    refine head_read ?_ (by kernel_rfl) (fun _ _ _ h => h) (Or.inl ⟨by rfl, ?_⟩) ?_
    rotate_left
    · intro w hS; (try dsimp only at hS); go_simp; first | done | with_reducible rfl
    simp only [Act.put, List.setIfInBounds_toArray, List.set_cons_zero, List.set_cons_succ]
    refine head_read ?_ (by kernel_rfl) (fun _ _ _ h => h) (Or.inl ⟨by rfl, ?_⟩) ?_
    rotate_left
    · intro w hS; (try dsimp only at hS); go_simp; first | done | with_reducible rfl
    simp only [Act.put, List.setIfInBounds_toArray, List.set_cons_zero, List.set_cons_succ]
    refine head_pure ?_ (fun _ _ _ h => h) (Or.inl ⟨by rfl, ?_⟩) ?_
    rotate_left
    · intro w; go_simp; first | done | with_reducible rfl
    simp only [Act.put, List.setIfInBounds_toArray, List.set_cons_zero, List.set_cons_succ]
    refine head_pure ?_ (fun _ _ _ h => h) (Or.inl ⟨by rfl, ?_⟩) ?_
    rotate_left
    · intro w; go_simp; first | done | with_reducible rfl
    simp only [Act.put, List.setIfInBounds_toArray, List.set_cons_zero, List.set_cons_succ]
    refine head_pure ?_ (fun _ _ _ h => h) (Or.inl ⟨by rfl, ?_⟩) ?_
    rotate_left
    · intro w; go_simp; first | done | with_reducible rfl
    simp only [Act.put, List.setIfInBounds_toArray, List.set_cons_zero, List.set_cons_succ]
    refine head_pure ?_ (fun _ _ _ h => h) (Or.inl ⟨by rfl, ?_⟩) ?_
    rotate_left
    · intro w; go_simp; first | done | with_reducible rfl
    simp only [Act.put, List.setIfInBounds_toArray, List.set_cons_zero, List.set_cons_succ]
    refine head_pure ?_ (fun _ _ _ h => h) (Or.inl ⟨by rfl, ?_⟩) ?_
    rotate_left
    · intro w; go_simp; first | done | with_reducible rfl
    simp only [Act.put, List.setIfInBounds_toArray, List.set_cons_zero, List.set_cons_succ]
    change wpList _ _ _ _ _ _
    go_wp2
    have hcc := hC (limb x A) (limb x B) (chSt S C A B pre).2 (limb_u64 _ _) (limb_u64 _ _) hc01.1 hc01.2
    refine ⟨((KeepsOthers.setCell _ _ _).trans (KeepsOthers.setCell _ _ _)).trans (KeepsOthers.drew _), (((Below.refl _ W).setCell (p := ⟨w.heap.size + 1 + 1 + 1 + 1, x, none⟩) (by simp; omega) _).setCell (p := ⟨w.heap.size + 1 + 1 + 1 + 1 + 1, 0, none⟩) (by simp; omega) _).drew, ⟨?_, ?_, ?_, ?_, ?_, ?_, ?_, ?_⟩,
      ((hBel.setCell (p := ⟨w.heap.size + 1 + 1 + 1 + 1, x, none⟩) (by simp; omega) _).setCell (p := ⟨w.heap.size + 1 + 1 + 1 + 1 + 1, 0, none⟩) (by simp; omega) _).drew⟩
    · intro i hi; have h := HA.out i hi; go_simp
    · intro i hi; have h := HB.out i hi; go_simp
    · go_simp
    · intro i hi; obtain ⟨h, k⟩ := HR.out i hi; exact ⟨by go_simp, by go_simp⟩
    · intro i hi
      obtain ⟨h, k⟩ := HO.out i hi
      rw [chSt_snoc]
      by_cases e : i = x
      · subst e
        refine ⟨?_, by go_simp⟩
        simp only [if_true]
        go_simp
      · refine ⟨?_, by go_simp⟩
        simp only [if_neg e]
        have e' : ¬ x = i := fun h => e h.symm
        go_simp
    · rw [chSt_snoc]; go_simp
    · go_simp
    · rw [chSt_snoc]; exact hcc
  case done =>
    rintro D ys W hD rfl ⟨⟨hA, hB, hF, hR, hO, hc, hcf, hc01⟩, hBel⟩ hK
    clear hrun hC
    obtain ⟨o0, _⟩ := hO 0 (by omega)
    obtain ⟨o1, _⟩ := hO 1 (by omega)
    obtain ⟨o2, _⟩ := hO 2 (by omega)
    obtain ⟨o3, _⟩ := hO 3 (by omega)
    obtain ⟨r0, s0⟩ := hR 0 (by omega)
    obtain ⟨r1, s1⟩ := hR 1 (by omega)
    obtain ⟨r2, s2⟩ := hR 2 (by omega)
    obtain ⟨r3, s3⟩ := hR 3 (by omega)
    clear hA hB hR hO
    gi_wp2
    gi_region
    all_goals gi_wp2
    all_goals
      have hK' : (((((W.setCell ⟨w.heap.size + 1 + 1 + 1, 0, none⟩ (.int .u64 ((chSt S C A B (fourth 4)).1 0))).setCell ⟨w.heap.size + 1 + 1 + 1, 1, none⟩ (.int .u64 ((chSt S C A B (fourth 4)).1 1))).setCell ⟨w.heap.size + 1 + 1 + 1, 2, none⟩ (.int .u64 ((chSt S C A B (fourth 4)).1 2))).setCell ⟨w.heap.size + 1 + 1 + 1, 3, none⟩ (.int .u64 ((chSt S C A B (fourth 4)).1 3))).drew).heap[D]? = some (.deferred (some [])) := (((((KeepsOthers.setCell _ _ _).trans (KeepsOthers.setCell _ _ _)).trans (KeepsOthers.setCell _ _ _)).trans (KeepsOthers.setCell _ _ _)).trans (KeepsOthers.drew _)).same D _ hK rfl
      have q0 : (((((W.setCell ⟨w.heap.size + 1 + 1 + 1, 0, none⟩ (.int .u64 ((chSt S C A B (fourth 4)).1 0))).setCell ⟨w.heap.size + 1 + 1 + 1, 1, none⟩ (.int .u64 ((chSt S C A B (fourth 4)).1 1))).setCell ⟨w.heap.size + 1 + 1 + 1, 2, none⟩ (.int .u64 ((chSt S C A B (fourth 4)).1 2))).setCell ⟨w.heap.size + 1 + 1 + 1, 3, none⟩ (.int .u64 ((chSt S C A B (fourth 4)).1 3))).drew).cell? ⟨w.heap.size + 1 + 1 + 1, 0, none⟩ = some (.int .u64 ((chSt S C A B (fourth 4)).1 0)) := by go_simp
      have q1 : (((((W.setCell ⟨w.heap.size + 1 + 1 + 1, 0, none⟩ (.int .u64 ((chSt S C A B (fourth 4)).1 0))).setCell ⟨w.heap.size + 1 + 1 + 1, 1, none⟩ (.int .u64 ((chSt S C A B (fourth 4)).1 1))).setCell ⟨w.heap.size + 1 + 1 + 1, 2, none⟩ (.int .u64 ((chSt S C A B (fourth 4)).1 2))).setCell ⟨w.heap.size + 1 + 1 + 1, 3, none⟩ (.int .u64 ((chSt S C A B (fourth 4)).1 3))).drew).cell? ⟨w.heap.size + 1 + 1 + 1, 1, none⟩ = some (.int .u64 ((chSt S C A B (fourth 4)).1 1)) := by go_simp
      have q2 : (((((W.setCell ⟨w.heap.size + 1 + 1 + 1, 0, none⟩ (.int .u64 ((chSt S C A B (fourth 4)).1 0))).setCell ⟨w.heap.size + 1 + 1 + 1, 1, none⟩ (.int .u64 ((chSt S C A B (fourth 4)).1 1))).setCell ⟨w.heap.size + 1 + 1 + 1, 2, none⟩ (.int .u64 ((chSt S C A B (fourth 4)).1 2))).setCell ⟨w.heap.size + 1 + 1 + 1, 3, none⟩ (.int .u64 ((chSt S C A B (fourth 4)).1 3))).drew).cell? ⟨w.heap.size + 1 + 1 + 1, 2, none⟩ = some (.int .u64 ((chSt S C A B (fourth 4)).1 2)) := by go_simp
      have q3 : (((((W.setCell ⟨w.heap.size + 1 + 1 + 1, 0, none⟩ (.int .u64 ((chSt S C A B (fourth 4)).1 0))).setCell ⟨w.heap.size + 1 + 1 + 1, 1, none⟩ (.int .u64 ((chSt S C A B (fourth 4)).1 1))).setCell ⟨w.heap.size + 1 + 1 + 1, 2, none⟩ (.int .u64 ((chSt S C A B (fourth 4)).1 2))).setCell ⟨w.heap.size + 1 + 1 + 1, 3, none⟩ (.int .u64 ((chSt S C A B (fourth 4)).1 3))).drew).cell? ⟨w.heap.size + 1 + 1 + 1, 3, none⟩ = some (.int .u64 ((chSt S C A B (fourth 4)).1 3)) := by go_simp
      have hBX : Below w.heap.size w (((((W.setCell ⟨w.heap.size + 1 + 1 + 1, 0, none⟩ (.int .u64 ((chSt S C A B (fourth 4)).1 0))).setCell ⟨w.heap.size + 1 + 1 + 1, 1, none⟩ (.int .u64 ((chSt S C A B (fourth 4)).1 1))).setCell ⟨w.heap.size + 1 + 1 + 1, 2, none⟩ (.int .u64 ((chSt S C A B (fourth 4)).1 2))).setCell ⟨w.heap.size + 1 + 1 + 1, 3, none⟩ (.int .u64 ((chSt S C A B (fourth 4)).1 3))).drew) := ((((hBel.setCell (p := ⟨w.heap.size + 1 + 1 + 1, 0, none⟩) (by simp; omega) _).setCell (p := ⟨w.heap.size + 1 + 1 + 1, 1, none⟩) (by simp; omega) _).setCell (p := ⟨w.heap.size + 1 + 1 + 1, 2, none⟩) (by simp; omega) _).setCell (p := ⟨w.heap.size + 1 + 1 + 1, 3, none⟩) (by simp; omega) _).drew
      generalize (((((W.setCell ⟨w.heap.size + 1 + 1 + 1, 0, none⟩ (.int .u64 ((chSt S C A B (fourth 4)).1 0))).setCell ⟨w.heap.size + 1 + 1 + 1, 1, none⟩ (.int .u64 ((chSt S C A B (fourth 4)).1 1))).setCell ⟨w.heap.size + 1 + 1 + 1, 2, none⟩ (.int .u64 ((chSt S C A B (fourth 4)).1 2))).setCell ⟨w.heap.size + 1 + 1 + 1, 3, none⟩ (.int .u64 ((chSt S C A B (fourth 4)).1 3))).drew) = X at *
      refine ⟨by simp, .inl ⟨_, _, rfl, run_takeDeferred hK', ?_⟩⟩
      have k0 := cell_kept q0 (grownBy_putObj' _ D (.deferred none)) (fun r e => by cases e; exact ⟨_, hK', rfl⟩)
      have k1 := cell_kept q1 (grownBy_putObj' _ D (.deferred none)) (fun r e => by cases e; exact ⟨_, hK', rfl⟩)
      have k2 := cell_kept q2 (grownBy_putObj' _ D (.deferred none)) (fun r e => by cases e; exact ⟨_, hK', rfl⟩)
      have k3 := cell_kept q3 (grownBy_putObj' _ D (.deferred none)) (fun r e => by cases e; exact ⟨_, hK', rfl⟩)
      refine ⟨.tuple #[.agg #[.int .u64 ((chSt S C A B (fourth 4)).1 0), .int .u64 ((chSt S C A B (fourth 4)).1 1), .int .u64 ((chSt S C A B (fourth 4)).1 2), .int .u64 ((chSt S C A B (fourth 4)).1 3)], .bool ((chSt S C A B (fourth 4)).2 != 0)], ?_, rfl, hBX.trans (belowK_b (w := w) (Nat.le_refl _) _ D _ _ (by simp at hD; omega) hK' rfl rfl)⟩
      simp [results, Tryz.f176, go_sem, k0, k1, k2, k3]
  case stop =>
    rintro D c pre W _ _ h _
    exact h.elim
  case c0 => intro i hi; (rcases (by omega : i = 0 ∨ i = 1 ∨ i = 2 ∨ i = 3) with rfl | rfl | rfl | rfl) <;> go_simp
  case c1 => intro i hi; (rcases (by omega : i = 0 ∨ i = 1 ∨ i = 2 ∨ i = 3) with rfl | rfl | rfl | rfl) <;> go_simp
  case c2 => intro i hi; (rcases (by omega : i = 0 ∨ i = 1 ∨ i = 2 ∨ i = 3) with rfl | rfl | rfl | rfl) <;> exact ⟨by go_simp, by go_simp⟩
  case c3 => intro i hi; (rcases (by omega : i = 0 ∨ i = 1 ∨ i = 2 ∨ i = 3) with rfl | rfl | rfl | rfl) <;> exact ⟨by unfold chSt; go_simp, by go_simp⟩
  case c4 => unfold chSt; go_simp
  case cB => refine Kept.below ?_; repeat (first | with_reducible exact Kept.refl _ | with_reducible refine Kept.alloc ?_ _ | with_reducible refine Kept.setCell ?_ (by simp; try omega) _)
end Go.Proofs.YtpfoifflfgiaoaaGreatDoor
namespace Go.Proofs.YtpfoifflfgiaoaaGreatDoor

/-- twice the rest, and a bit; whether the divisor went once -/
def onceB (r b d : Nat) : Bool := decide (d ≤ 2 * r + b)
def nextN (r b d : Nat) : Nat := if onceB r b d = true then 2 * r + b - d else 2 * r + b
theorem next_div {r b d : Nat} (hd : r < d) (hb : b ≤ 1) : nextN r b d = (2 * r + b) % d ∧ (if onceB r b d = true then 1 else 0) = (2 * r + b) / d := by
  unfold nextN onceB
  by_cases h : d ≤ 2 * r + b
  · simp only [decide_eq_true h, if_true]
    have e : 2 * r + b = (2 * r + b - d) + 1 * d := by omega
    constructor
    · rw [e, Nat.add_mul_mod_self_right, Nat.mod_eq_of_lt (by omega)]; omega
    · rw [e, Nat.add_mul_div_right _ _ (by omega), Nat.div_eq_of_lt (by omega)]
  · simp only [decide_eq_false h, Bool.false_eq_true, if_false]
    exact ⟨(Nat.mod_eq_of_lt (by omega)).symm, (Nat.div_eq_of_lt (by omega)).symm⟩
theorem next_lt {r b d : Nat} (hd : r < d) (hb : b ≤ 1) : nextN r b d < d := by rw [(next_div hd hb).1]; exact Nat.mod_lt _ (by omega)
/-- rest and quotient of one more bit -/
theorem div_bit (m b d : Nat) (hd : 0 < d) (hb : b ≤ 1) : (2 * m + b) % d = nextN (m % d) b d ∧ (2 * m + b) / d = 2 * (m / d) + (if onceB (m % d) b d = true then 1 else 0) := by
  obtain ⟨h1, h2⟩ := next_div (Nat.mod_lt m hd) hb
  have e : 2 * m + b = (2 * (m % d) + b) + 2 * (m / d) * d := by
    have := Nat.div_add_mod m d
    rw [Nat.mul_comm] at this
    rw [Nat.mul_assoc]; omega
  rw [h1, h2, e, Nat.add_mul_mod_self_right, Nat.add_mul_div_right _ _ hd]
  exact ⟨rfl, by omega⟩
end Go.Proofs.YtpfoifflfgiaoaaGreatDoor
namespace Go.Proofs.YtpfoifflfgiaoaaGreatDoor

/-- the root behind k bits, from the highest on -/
def rootS (n : Nat) : Nat → Nat
  | 0 => 0
  | k + 1 => if (rootS n k + 2 ^ (127 - k)) * (rootS n k + 2 ^ (127 - k)) ≤ n then rootS n k + 2 ^ (127 - k) else rootS n k
@[irreducible] def rootN (n : Nat) : Nat := rootS n 128
def exactB (n : Nat) : Bool := decide (rootN n * rootN n = n)

theorem rootS_inv {n : Nat} (hn : W256 n) : ∀ k, k ≤ 128 → rootS n k % 2 ^ (128 - k) = 0 ∧ rootS n k * rootS n k ≤ n ∧ n < (rootS n k + 2 ^ (128 - k)) * (rootS n k + 2 ^ (128 - k))
  | 0, _ => by
    have := hn.lt
    refine ⟨by simp [rootS], by simp [rootS], ?_⟩
    simp only [rootS, Nat.zero_add, Nat.sub_zero]
    rw [← Nat.pow_add]; exact this
  | k + 1, hk => by
    obtain ⟨h1, h2, h3⟩ := rootS_inv hn k (by omega)
    have e : 2 ^ (128 - k) = 2 * 2 ^ (127 - k) := by rw [← Nat.pow_succ']; congr 1; omega
    have hp := Nat.two_pow_pos (127 - k)
    rw [show 128 - (k + 1) = 127 - k by omega]
    rw [e] at h1 h3
    have hm : rootS n k % 2 ^ (127 - k) = 0 := Nat.mod_eq_zero_of_dvd (Nat.dvd_trans (Nat.dvd_mul_left _ 2) (Nat.dvd_of_mod_eq_zero h1))
    simp only [rootS]
    split
    · rename_i h
      refine ⟨by rw [Nat.add_mod_right]; exact hm, h, ?_⟩
      rw [show rootS n k + 2 ^ (127 - k) + 2 ^ (127 - k) = rootS n k + 2 * 2 ^ (127 - k) by omega]; exact h3
    · rename_i h
      exact ⟨hm, h2, by omega⟩
theorem rootS_low {n : Nat} (hn : W256 n) {k : Nat} (hk : k < 128) : rootS n k % 2 ^ (128 - k) = 0 := (rootS_inv hn k (by omega)).1
theorem sq_lt {a b : Nat} (h : a * a < b * b) : a < b := by
  rcases Nat.lt_or_ge a b with k | k
  · exact k
  · have := Nat.mul_le_mul k k; omega
theorem rootS_w {n : Nat} (hn : W256 n) {k : Nat} (hk : k ≤ 128) : W128 (rootS n k) := ⟨by
  obtain ⟨_, h2, _⟩ := rootS_inv hn k hk
  have := hn.lt
  exact sq_lt (b := 2 ^ 128) (by omega)⟩
theorem rootN_w {n : Nat} (hn : W256 n) : W128 (rootN n) := by unfold rootN; exact rootS_w hn (Nat.le_refl _)
end Go.Proofs.YtpfoifflfgiaoaaGreatDoor
namespace Go.Proofs.YtpfoifflfgiaoaaGreatDoor

theorem limb_or (j A B : Nat) : bits .or .u64 (limb j A) (limb j B) = limb j (A ||| B) := by
  rw [or_u64 (limb_u64 _ _) (limb_u64 _ _)]
  unfold limb
  rw [Int.toNat_natCast, Int.toNat_natCast, Nat.or_div_two_pow, Nat.or_mod_two_pow]
theorem or_add {Q i : Nat} (h : Q % 2 ^ (i + 1) = 0) : Q ||| 2 ^ i = Q + 2 ^ i := by
  obtain ⟨q, hq⟩ := Nat.dvd_of_mod_eq_zero h
  subst hq
  exact (Nat.two_pow_add_eq_or_of_lt (Nat.pow_lt_pow_right (by omega) (Nat.lt_succ_self i)) q).symm
theorem rootS_or {n k : Nat} (hn : W256 n) (hk : k < 128) : rootS n k ||| 2 ^ (127 - k) = rootS n k + 2 ^ (127 - k) :=
  or_add (by rw [show 127 - k + 1 = 128 - k by omega]; exact rootS_low hn hk)
theorem rootS_succ (n k : Nat) : rootS n (k + 1) = if (rootS n k + 2 ^ (127 - k)) * (rootS n k + 2 ^ (127 - k)) ≤ n then rootS n k + 2 ^ (127 - k) else rootS n k := rfl
theorem rootS_all (n : Nat) : rootS n 128 = rootN n := by unfold rootN; rfl

/-! from any power on -/
end Go.Proofs.YtpfoifflfgiaoaaGreatDoor
namespace Go.Proofs.YtpfoifflfgiaoaaGreatDoor

/-- the bit of a place -/
def bitN (A i : Nat) : Nat := A / 2 ^ i % 2
theorem bitN_le (A i : Nat) : bitN A i ≤ 1 := by unfold bitN; omega
theorem div_bitN (A i : Nat) : A / 2 ^ i = 2 * (A / 2 ^ (i + 1)) + bitN A i := by
  unfold bitN
  rw [Nat.pow_succ, ← Nat.div_div_eq_div_mul]; omega
/-- the rest, and the quotient, of what stands above place i -/
def restN (A D i : Nat) : Nat := A / 2 ^ i % D
def quoN (A D i : Nat) : Nat := A / 2 ^ i / D * 2 ^ i
theorem rest_step (A : Nat) {D i : Nat} (hD : 0 < D) : restN A D i = nextN (restN A D (i + 1)) (bitN A i) D := by
  unfold restN
  rw [div_bitN, (div_bit _ _ D hD (bitN_le A i)).1]
theorem quo_step (A : Nat) {D i : Nat} (hD : 0 < D) : quoN A D i = quoN A D (i + 1) + (if onceB (restN A D (i + 1)) (bitN A i) D = true then 2 ^ i else 0) := by
  unfold quoN restN
  rw [div_bitN, (div_bit _ _ D hD (bitN_le A i)).2, Nat.add_mul, Nat.pow_succ]
  split
  · rw [Nat.one_mul, Nat.mul_comm 2 _, Nat.mul_assoc, Nat.mul_comm 2 _]
  · rw [Nat.zero_mul, Nat.mul_comm 2 _, Nat.mul_assoc, Nat.mul_comm 2 _]
theorem rest_end (A D : Nat) : restN A D 0 = A % D := by unfold restN; rw [Nat.pow_zero, Nat.div_one]
theorem quo_end (A D : Nat) : quoN A D 0 = A / D := by unfold quoN; rw [Nat.pow_zero, Nat.div_one, Nat.mul_one]
theorem rest_top {A m : Nat} (h : A < 2 ^ m) (D : Nat) : restN A D m = 0 := by unfold restN; rw [Nat.div_eq_of_lt h, Nat.zero_mod]
theorem quo_top {A m : Nat} (h : A < 2 ^ m) (D : Nat) : quoN A D m = 0 := by unfold quoN; rw [Nat.div_eq_of_lt h, Nat.zero_div, Nat.zero_mul]
theorem quo_or (A D i : Nat) : quoN A D (i + 1) ||| 2 ^ i = quoN A D (i + 1) + 2 ^ i := or_add (by unfold quoN; exact Nat.mul_mod_left _ _)
/-- a power's part -/
theorem limb_pow (j i : Nat) : limb j (2 ^ i) = if i / 64 = j then ((2 ^ (i % 64) : Nat) : Int) else 0 := by
  unfold limb
  split
  · rename_i h
    have e : i = 64 * j + i % 64 := by omega
    rw [show 2 ^ i / 2 ^ (64 * j) = 2 ^ (i % 64) by
      conv => lhs; rw [e]
      rw [Nat.pow_add, Nat.mul_div_cancel_left _ (Nat.two_pow_pos _)]]
    rw [Nat.mod_eq_of_lt (Nat.pow_lt_pow_right (by omega) (by omega))]
  · rename_i h
    rcases Nat.lt_or_ge i (64 * j) with k | k
    · rw [Nat.div_eq_of_lt (Nat.pow_lt_pow_right (by omega) k)]; rfl
    · have e : i = 64 * j + (i - 64 * j) := by omega
      rw [show 2 ^ i / 2 ^ (64 * j) = 2 ^ (i - 64 * j) by
        conv => lhs; rw [e]
        rw [Nat.pow_add, Nat.mul_div_cancel_left _ (Nat.two_pow_pos _)]]
      rw [Nat.mod_eq_zero_of_dvd (Nat.pow_dvd_pow 2 (by omega))]; rfl
/-- a bit of a number, by its part -/
theorem bit_part (A i : Nat) : limb (i / 64) A / 2 ^ (i % 64) % 2 = ((bitN A i : Nat) : Int) := by
  unfold limb bitN
  have h1 : (A / 2 ^ (64 * (i / 64)) % 2 ^ 64) / 2 ^ (i % 64) % 2 = A / 2 ^ i % 2 := by
    have e : (2 : Nat) ^ 64 = 2 ^ (i % 64) * 2 ^ (64 - i % 64) := by rw [← Nat.pow_add]; congr 1; omega
    rw [e, Nat.mod_mul_right_div_self, Nat.div_div_eq_div_mul, ← Nat.pow_add, show 64 * (i / 64) + i % 64 = i by omega]
    exact Nat.mod_mod_of_dvd _ (by
      have : (2 : Nat) ^ (64 - i % 64) = 2 * 2 ^ (63 - i % 64) := by rw [← Nat.pow_succ']; congr 1; omega
      rw [this]; exact Nat.dvd_mul_right _ _)
  rw [← h1]
  simp only [Int.natCast_ediv, Int.natCast_emod, Int.natCast_pow]; rfl

/-- far steps: the rest of a number shifted far -/
def farN (r D : Nat) (k : Nat) : Nat := r * 2 ^ k % D
theorem far_zero {r D : Nat} (h : r < D) : farN r D 0 = r := by unfold farN; rw [Nat.pow_zero, Nat.mul_one, Nat.mod_eq_of_lt h]
theorem far_lt (r : Nat) {D : Nat} (h : 0 < D) (k : Nat) : farN r D k < D := Nat.mod_lt _ h
theorem far_step (r : Nat) {D : Nat} (hD : 0 < D) (k : Nat) : farN r D (k + 1) = nextN (farN r D k) 0 D := by
  unfold farN
  rw [← (div_bit (r * 2 ^ k) 0 D hD (by omega)).1, Nat.pow_succ, Nat.add_zero]; congr 1; rw [Nat.mul_comm 2, Nat.mul_assoc]
/-- whether the last step's quotient is odd -/
def oddF (r D k : Nat) : Bool := decide (r * 2 ^ k / D % 2 = 1)
theorem odd_step (r : Nat) {D : Nat} (hD : 0 < D) (k : Nat) : oddF r D (k + 1) = onceB (farN r D k) 0 D := by
  unfold oddF farN
  have h := (div_bit (r * 2 ^ k) 0 D hD (by omega)).2
  rw [show r * 2 ^ (k + 1) = 2 * (r * 2 ^ k) + 0 by rw [Nat.pow_succ, Nat.add_zero, Nat.mul_comm 2, Nat.mul_assoc], h]
  cases onceB (r * 2 ^ k % D) 0 D
  · simp
  · simp
theorem odd_zero {r D : Nat} (h : r < D) : oddF r D 0 = false := by unfold oddF; rw [Nat.pow_zero, Nat.mul_one, Nat.div_eq_of_lt h]; rfl
end Go.Proofs.YtpfoifflfgiaoaaGreatDoor
namespace Go.Proofs.YtpfoifflfgiaoaaGreatDoor

/-- quotient and rest, by name -/
@[irreducible] def divN (A D : Nat) : Nat := A / D
@[irreducible] def modN (A D : Nat) : Nat := A % D
theorem divN_def (A D : Nat) : divN A D = A / D := by unfold divN; rfl
theorem modN_def (A D : Nat) : modN A D = A % D := by unfold modN; rfl
/-- the first k of the 256 places -/
def first256 (k : Nat) : List (Fin 256) := (List.finRange 256).take k
theorem first256_succ {k : Nat} (h : k < 256) : first256 (k + 1) = first256 k ++ [⟨k, h⟩] := by
  unfold first256
  rw [List.take_succ_eq_append_getElem (by simpa using h)]; simp
theorem first256_length {k : Nat} (h : k ≤ 256) : (first256 k).length = k := by unfold first256; simp; omega
/-- quotient and rest, one place more -/
def layQ (q i : Nat) (once : Bool) : Nat := if once = true then q ||| 2 ^ i else q
def divS (A D : Nat) (pre : List (Fin 256)) : Nat × Nat :=
  pre.foldl (fun s x => (layQ s.1 (255 - x.val) (onceB s.2 (bitN A (255 - x.val)) D), nextN s.2 (bitN A (255 - x.val)) D)) (0, 0)
theorem divS_nil (A D : Nat) : divS A D [] = (0, 0) := rfl
theorem divS_snoc (A D : Nat) (pre : List (Fin 256)) (x : Fin 256) : divS A D (pre ++ [x]) =
    (layQ (divS A D pre).1 (255 - x.val) (onceB (divS A D pre).2 (bitN A (255 - x.val)) D), nextN (divS A D pre).2 (bitN A (255 - x.val)) D) := by
  unfold divS; rw [List.foldl_append]; rfl
theorem layQ_w {q i : Nat} {o : Bool} (h : W256 q) (hi : i < 256) : W256 (layQ q i o) := by
  unfold layQ; split
  · exact ⟨Nat.or_lt_two_pow h.lt (Nat.pow_lt_pow_right (by omega) hi)⟩
  · exact h
theorem divS_inv_aux (A : Nat) {D : Nat} : ∀ (pre : List (Fin 256)) (s : Nat × Nat), W256 s.1 → s.2 < D →
    W256 (pre.foldl (fun s x => (layQ s.1 (255 - x.val) (onceB s.2 (bitN A (255 - x.val)) D), nextN s.2 (bitN A (255 - x.val)) D)) s).1 ∧ (pre.foldl (fun (s : Nat × Nat) (x : Fin 256) => (layQ s.1 (255 - x.val) (onceB s.2 (bitN A (255 - x.val)) D), nextN s.2 (bitN A (255 - x.val)) D)) s).2 < D
  | [], _, h, k => ⟨h, k⟩
  | x :: l, s, h, k => divS_inv_aux A l _ (layQ_w h (by omega)) (next_lt k (bitN_le _ _))
theorem divS_inv (A : Nat) {D : Nat} (hD : 0 < D) (pre : List (Fin 256)) : W256 (divS A D pre).1 ∧ (divS A D pre).2 < D := divS_inv_aux A pre (0, 0) ⟨by omega⟩ hD
theorem divS_first {A D : Nat} (hA : W256 A) (hD : 0 < D) : ∀ k, k ≤ 256 → divS A D (first256 k) = (quoN A D (256 - k), restN A D (256 - k))
  | 0, _ => by
    unfold first256; rw [List.take_zero, divS_nil, quo_top hA.lt, rest_top hA.lt]
  | k + 1, h => by
    rw [first256_succ (by omega), divS_snoc, divS_first hA hD k (by omega)]
    have e : 256 - k = 255 - k + 1 := by omega
    have e2 : 256 - (k + 1) = 255 - k := by omega
    simp only []
    rw [e2, e, rest_step A (i := 255 - k) hD, quo_step A (i := 255 - k) hD]
    unfold layQ
    congr 1
    split
    · rename_i o; exact quo_or _ _ _
    · rename_i o; exact (Nat.add_zero _).symm
theorem divS_all {A D : Nat} (hA : W256 A) (hD : 0 < D) : divS A D (first256 256) = (divN A D, modN A D) := by
  rw [divN_def, modN_def, divS_first hA hD 256 (Nat.le_refl _), Nat.sub_self, quo_end, rest_end]
/-- the parts of a quotient with a bit laid into it -/
theorem limb_layQ (q i j : Nat) : limb j (q ||| 2 ^ i) = if i / 64 = j then bits .or .u64 (limb j q) ((2 ^ (i % 64) : Nat) : Int) else limb j q := by
  have h := limb_or j q (2 ^ i)
  rw [limb_pow] at h
  split
  · rename_i e
    rw [if_pos e] at h; exact h.symm
  · rename_i e
    rw [if_neg e, or_u64 (limb_u64 _ _) u64_zero] at h
    have := (limb_u64 j q).lo
    rw [← h, show (0 : Int).toNat = 0 from rfl, Nat.or_zero]; omega
end Go.Proofs.YtpfoifflfgiaoaaGreatDoor
namespace Go.Proofs.YtpfoifflfgiaoaaGreatDoor
open Go.RowKit Go.Shelf
attribute [local go_sem] Oper.semAt_some

/-- what the loop over a number's bits asks of a round: the number's cells stay -/
def KpQ (b : Nat) (f : Nat → Int) (X Y : World) : Prop := Four b f X → Four b f Y
theorem kpQ_t {b : Nat} {f : Nat → Int} {A B C : World} (h : KpQ b f A B) (k : KpQ b f B C) : KpQ b f A C := fun x => k (h x)
theorem kpQ_b {b : Nat} {f : Nat → Int} (W : World) (l : Nat) (o o' : Obj) (h : W.heap[l]? = some o) (hc : o.isCells = false) : KpQ b f W (W.putObj l o') :=
  fun x => x.kept (grownBy_putObj' W l o') (fun r e => by cases e; exact ⟨o, h, hc⟩)
/-- a place's value, and what stands there -/
def placeV (A : Nat) (x : Fin 256) : Array Value := #[.int .i64 (255 - (x.val : Int)), .int .u64 (bitN A (255 - x.val) : Int)]
theorem and_bit (A i : Nat) : bits .and .u64 (limb (i / 64) A / 2 ^ (i % 64)) 1 = (bitN A i : Int) := by
  rw [and_one, bit_part]
  have h := limb_u64 (i / 64) A
  have hp : (0 : Int) < 2 ^ (i % 64) := Int.pow_pos (by omega)
  refine ⟨Int.ediv_nonneg h.lo (Int.le_of_lt hp), Int.lt_of_le_of_lt (Int.ediv_le_self _ h.lo) h.hi⟩
set_option maxRecDepth 100000 in
set_option maxHeartbeats 2000000 in
theorem digits1_in (F : Fence) (n : Nat) (h7 : F.fn 235) (hro : F.round = none) (hn : 1 ≤ n) (l b A : Nat) (J Jx : List (Fin 256) → World → Prop)
    (hY : ∀ pre x W, J pre W → pre.length < 256 → YieldAt F (n - 1) Tryz.prog l (placeV A x) W fun e W' =>
      (e = .returned (.bool true) ∧ J (pre ++ [x]) W' ∧ KpQ b (fun i => limb i A) W W') ∨ (e = .returned (.bool false) ∧ Jx (pre ++ [x]) W'))
    (W : World) (h0 : J [] W) (hc : Four b (fun i => limb i A) W) :
    CallsIn F n Tryz.prog 235 #[.func (.yield l) #[] #[], .pointer (some ⟨b, 0, none⟩)] W fun e W' => (∃ v, e = .returned v) ∧
      ((∃ ys, ys = first256 256 ∧ J ys W') ∨ (∃ pre, (∃ k, k ≤ 256 ∧ pre = first256 k) ∧ Jx pre W')) := by
  refine callsIn_of_wp Tryz.func235 rfl h7 ?_ hro
  simp only [Tryz.ntmps235, List.size_toArray, List.length_cons, List.length_nil, Nat.reduceAdd, Nat.reduceSub, Array.replicate_succ, Array.replicate_zero, List.push_toArray, List.append_toArray, List.nil_append, List.cons_append]
  gi_wp2
  gi_loopw [3] (fun i wr => ∃ k : Nat, k ≤ 256 ∧ i = .int .i64 (255 - (k : Int)) ∧ J (first256 k) wr ∧ Four b (fun i => limb i A) wr)
    (fun i _ => (intOf i + 1).toNat)
  case atStart => exact ⟨0, Nat.zero_le _, rfl, h0, hc⟩
  case round =>
    obtain ⟨k, hk, rfl, hJs, hnx⟩ := hrel
    by_cases hlt : k < 256
    · obtain ⟨fn, tmps, assign, body, hy, hR⟩ := hY _ ⟨k, hlt⟩ wr hJs (by rw [first256_length hk]; exact hlt)
      have cell := hnx ((255 - k) / 64) (by omega)
      have hand := and_bit A (255 - k)
      unfold placeV at hy
      dsimp only at hy cell hand
      have e1 : bits .and .i64 (255 - (k : Int)) 63 = (((255 - k) % 64 : Nat) : Int) := by rw [and63]; omega
      have e2 : (255 - (k : Int)) / 64 = (((255 - k) / 64 : Nat) : Int) := by omega
      have g0 : (0 : Int) ≤ 255 - (k : Int) := by omega
      have g3 : ((255 - k) / 64 : Nat) < 4 := by omega
      have g4 : ((255 - k) % 64 : Nat) < 64 := by omega
      generalize (255 - k) / 64 = q at *
      generalize (255 - k) % 64 = s at *
      generalize (bitN A (255 - k) : Int) = bb at *
      gi_wp2
      refine hR.mono ?_
      rintro e W3 (⟨rfl, hJ3, hk3⟩ | ⟨rfl, hJx3⟩)
      · gi_wp2
        go_roundw
        case rel => exact ⟨k + 1, by omega, by simp; omega, by rw [first256_succ hlt]; exact hJ3, hk3 hnx⟩
        case measure => simp [intOf]; omega
      · gi_wp2
        refine bodyPost_ret (v := .tuple #[]) (results_none (by rfl) _ _ _) rfl ?_
        exact ⟨⟨_, rfl⟩, .inr ⟨_, ⟨k + 1, by omega, (first256_succ hlt).symm⟩, hJx3⟩⟩
    · have hge : (255 : Int) - k < 0 := by omega
      have H4 := Lib.hid (show first256 k = first256 256 by rw [show k = 256 by omega])
      clear hk hlt
      gi_wp2
      go_end0
      exact ⟨⟨_, rfl⟩, .inl ⟨_, H4.out, hJs⟩⟩

theorem digits_stops (F : Fence) (n : Nat) (h7 : F.fn 235) (hro : F.round = none) (hn : 1 ≤ n) (b A : Nat) (w : World) (hb : b < w.heap.size) (hc : Four b (fun i => limb i A) w) :
    SeqStopsK F n Tryz.prog 235 #[.pointer (some ⟨b, 0, none⟩)] (placeV A) (KpQ b (fun i => limb i A)) (fun ys => ys = first256 256) (fun pre => ∃ k, k ≤ 256 ∧ pre = first256 k) 256 w := fun l J Jx W hB _ _ hY h0 => by
  refine (digits1_in F n h7 hro hn l b A J Jx hY W h0 (fun i hi => (hB.cell (p := ⟨b, i, none⟩) hb).trans (hc i hi))).mono ?_
  rintro e W' ⟨he, h⟩
  exact ⟨he, h⟩

set_option maxRecDepth 100000 in
theorem digits_in (F : Fence) (n : Nat) (h5 : F.fn 166) (hro : F.round = none) (A : Nat) (w : World) :
    CallsIn F n Tryz.prog 166 #[wideV A] w fun e w' => e = .returned (.func (.func 235) #[] #[.pointer (some ⟨w.heap.size, 0, none⟩)]) ∧ Below w.heap.size w w' ∧ Box w' w.heap.size #[.int .u64 (limb 0 A), .int .u64 (limb 1 A), .int .u64 (limb 2 A), .int .u64 (limb 3 A)] := by
  refine callsIn_of_wp Tryz.func166 rfl h5 ?_ hro
  simp only [Tryz.ntmps166, List.size_toArray, List.length_cons, List.length_nil, Nat.reduceAdd, Nat.reduceSub, Array.replicate_succ, Array.replicate_zero, List.push_toArray, List.append_toArray, List.nil_append, List.cons_append]
  gi_wp2
  go_ret
  exact ⟨rfl, (Below.refl _ w).alloc (Nat.le_refl _) _, Box.newAt rfl⟩
end Go.Proofs.YtpfoifflfgiaoaaGreatDoor
namespace Go.Proofs.YtpfoifflfgiaoaaGreatDoor
open Go.RowKit
def mulRen : Go.Shelf.Ren := ⟨fun | 264 => 265 | n => n, fun | 53 => 27 | 46 => 136 | n => n, fun n => n⟩
theorem mulLays : Lays.n264 Tryz.prog mulRen := {
  mixed := by kernel_rfl, f264 := by kernel_rfl, t46 := by kernel_rfl, a46 := fun _ => by kernel_rfl, z46 := fun _ => by kernel_rfl, v46 := fun _ => by kernel_rfl,
  t53 := by kernel_rfl, a53 := fun _ => by kernel_rfl, z53 := fun _ => by kernel_rfl, v53 := fun _ => by kernel_rfl }
theorem Mul64_any {x y : Int} (hx : U64 x) (hy : U64 y) (w : World) :
    Calls Tryz.prog 265 #[.int .u64 x, .int .u64 y] w fun e w' => e = .returned (.tuple #[.int .u64 (limb 1 (x.toNat * y.toNat)), .int .u64 (limb 0 (x.toNat * y.toNat))]) ∧ w = w' := by
  obtain ⟨a, rfl⟩ := Int.eq_ofNat_of_zero_le hx.lo
  obtain ⟨b, rfl⟩ := Int.eq_ofNat_of_zero_le hy.lo
  have ha : a < 18446744073709551616 := by have := hx.hi; omega
  have hb : b < 18446744073709551616 := by have := hy.hi; omega
  have hm : a * b < 18446744073709551616 * 18446744073709551616 := Nat.mul_lt_mul'' ha hb
  have e1 : limb 1 (a * b) = ((a * b / 18446744073709551616 : Nat) : Int) := by unfold limb; omega
  have e0 : limb 0 (a * b) = ((a * b % 18446744073709551616 : Nat) : Int) := by unfold limb; omega
  rw [Int.toNat_natCast, Int.toNat_natCast, e1, e0]
  exact (Any.bits_Mul64 mulLays a b ha hb w).mono fun e w' ⟨h1, h2⟩ => ⟨h1, h2.symm⟩
end Go.Proofs.YtpfoifflfgiaoaaGreatDoor
namespace Go.Proofs.YtpfoifflfgiaoaaGreatDoor
open Go.RowKit

def over128 (x : Nat) : Bool := decide (2 ^ 128 ≤ x)

theorem add_lo {a0 a1 b0 b1 : Int} (h0 : U64 a0) (h1 : U64 a1) (g0 : U64 b0) (g1 : U64 b1) :
    sumI a0 b0 0 = limb 0 (val2 a0 a1 + val2 b0 b1) ∧ sumI a1 b1 (carI a0 b0 0) = limb 1 (val2 a0 a1 + val2 b0 b1) ∧ (carI a1 b1 (carI a0 b0 0) != 0) = over128 (val2 a0 a1 + val2 b0 b1) := by
  have := h0.lo; have := h0.hi; have := h1.lo; have := h1.hi; have := g0.lo; have := g0.hi; have := g1.lo; have := g1.hi
  refine ⟨by unfold sumI limb val2; omega, by unfold sumI carI limb val2; omega, ?_⟩
  unfold over128 carI val2
  rw [Bool.eq_iff_iff, bne_iff_ne, decide_eq_true_iff]
  omega
theorem sub_lo {a0 a1 b0 b1 : Int} (h0 : U64 a0) (h1 : U64 a1) (g0 : U64 b0) (g1 : U64 b1) :
    difI a0 b0 0 = limb 0 (val2 a0 a1 + 2 ^ 128 - val2 b0 b1) ∧ difI a1 b1 (borI a0 b0 0) = limb 1 (val2 a0 a1 + 2 ^ 128 - val2 b0 b1) ∧ (borI a1 b1 (borI a0 b0 0) != 0) = ltB (val2 a0 a1) (val2 b0 b1) := by
  have := h0.lo; have := h0.hi; have := h1.lo; have := h1.hi; have := g0.lo; have := g0.hi; have := g1.lo; have := g1.hi
  refine ⟨by unfold difI limb val2; omega, by unfold difI borI limb val2; split <;> omega, ?_⟩
  unfold ltB borI val2
  rw [Bool.eq_iff_iff, bne_iff_ne, decide_eq_true_iff]
  split <;> split <;> omega

set_option maxRecDepth 100000 in
set_option maxHeartbeats 400000 in
theorem Add_any {a0 a1 b0 b1 : Int} (h0 : U64 a0) (h1 : U64 a1) (g0 : U64 b0) (g1 : U64 b1) (w : World) :
    Calls Tryz.prog 139 #[.agg #[.int .u64 a1, .int .u64 a0], .agg #[.int .u64 b1, .int .u64 b0]] w fun e w' =>
      e = .returned (.tuple #[bitsV (val2 a0 a1 + val2 b0 b1), .bool (over128 (val2 a0 a1 + val2 b0 b1))]) ∧ Below w.heap.size w w' := by
  have c0 := carI_bit h0 g0 (c := 0) (by omega) (by omega)
  have r0 := fun w => add64_run h0 g0 (c := 0) (by omega) (by omega) w
  have r1 := fun w => add64_run h1 g1 c0.1 c0.2 w
  obtain ⟨e0, e1, e2⟩ := add_lo h0 h1 g0 g1
  have E := Lib.hid (And.intro e0 (And.intro e1 e2)); clear e0 e1 e2 c0
  go_enter Tryz.func139, Tryz.ntmps139
  go_wp2
  refine bodyPost_ret (v := .tuple #[.agg #[.int .u64 (sumI a1 b1 (carI a0 b0 0)), .int .u64 (sumI a0 b0 0)], .bool (carI a1 b1 (carI a0 b0 0) != 0)]) (by simp [results, Tryz.results139, go_sem]) rfl ⟨?_, ?_⟩
  · rw [E.out.1, E.out.2.1, E.out.2.2]
  · exact (by refine Kept.below ?_; repeat (first | exact Kept.refl _ | refine Kept.alloc ?_ _ | refine Kept.drew ?_ | refine Kept.setCell ?_ (by simp; try omega) _))

set_option maxRecDepth 100000 in
set_option maxHeartbeats 400000 in
theorem Sub_any {a0 a1 b0 b1 : Int} (h0 : U64 a0) (h1 : U64 a1) (g0 : U64 b0) (g1 : U64 b1) (w : World) :
    Calls Tryz.prog 179 #[.agg #[.int .u64 a1, .int .u64 a0], .agg #[.int .u64 b1, .int .u64 b0]] w fun e w' =>
      e = .returned (.tuple #[bitsV (val2 a0 a1 + 2 ^ 128 - val2 b0 b1), .bool (ltB (val2 a0 a1) (val2 b0 b1))]) ∧ Below w.heap.size w w' := by
  have c0 := borI_bit a0 b0 0
  have r0 := fun w => sub64_run h0 g0 (c := 0) (by omega) (by omega) w
  have r1 := fun w => sub64_run h1 g1 c0.1 c0.2 w
  obtain ⟨e0, e1, e2⟩ := sub_lo h0 h1 g0 g1
  have E := Lib.hid (And.intro e0 (And.intro e1 e2)); clear e0 e1 e2 c0
  go_enter Tryz.func179, Tryz.ntmps179
  go_wp2
  refine bodyPost_ret (v := .tuple #[.agg #[.int .u64 (difI a1 b1 (borI a0 b0 0)), .int .u64 (difI a0 b0 0)], .bool (borI a1 b1 (borI a0 b0 0) != 0)]) (by simp [results, Tryz.results179, go_sem]) rfl ⟨?_, ?_⟩
  · rw [E.out.1, E.out.2.1, E.out.2.2]
  · exact (by refine Kept.below ?_; repeat (first | exact Kept.refl _ | refine Kept.alloc ?_ _ | refine Kept.drew ?_ | refine Kept.setCell ?_ (by simp; try omega) _))

set_option maxRecDepth 100000 in
set_option maxHeartbeats 400000 in
theorem Mul_any {x y : Int} (hx : U64 x) (hy : U64 y) (w : World) :
    Calls Tryz.prog 225 #[.int .u64 x, .int .u64 y] w fun e w' =>
      e = .returned (bitsV (x.toNat * y.toNat)) ∧ Below w.heap.size w w' := by
  go_enter Tryz.func225, Tryz.ntmps225
  go_wp2_with (go_at_call 265; refine (Mul64_any hx hy _).mono ?_; rintro e w' ⟨rfl, rfl⟩)
  refine bodyPost_ret (v := bitsV (x.toNat * y.toNat)) (by simp [results, Tryz.results225, go_sem]) rfl ⟨rfl, ?_⟩
  exact (by refine Kept.below ?_; repeat (first | exact Kept.refl _ | refine Kept.alloc ?_ _ | refine Kept.drew ?_ | refine Kept.setCell ?_ (by simp; try omega) _))

set_option maxRecDepth 100000 in
set_option maxHeartbeats 400000 in
theorem Zero_any (a0 a1 : Int) (w : World) :
    Calls Tryz.prog 97 #[.agg #[.int .u64 a1, .int .u64 a0]] w fun e w' =>
      e = .returned (.bool (decide (a1 = 0) && decide (a0 = 0))) ∧ Below w.heap.size w w' := by
  go_enter Tryz.func97, Tryz.ntmps97
  go_wp2
  all_goals go_ret
  all_goals exact ⟨ret_bool (by simp_all), (by refine Kept.below ?_; repeat (first | exact Kept.refl _ | refine Kept.alloc ?_ _ | refine Kept.drew ?_ | refine Kept.setCell ?_ (by simp; try omega) _))⟩

set_option maxRecDepth 100000 in
set_option maxHeartbeats 400000 in
theorem isNaN_any (x : Int) (w : World) :
    Calls Tryz.prog 238 #[.int .u64 x] w fun e w' => e = .returned (.bool false) ∧ w = w' := by
  go_enter Tryz.func238, Tryz.ntmps238
  go_wp2
  all_goals go_ret
  all_goals exact ⟨rfl, rfl⟩
set_option maxRecDepth 100000 in
set_option maxHeartbeats 400000 in
theorem Compare_any (x y : Int) (w : World) :
    Calls Tryz.prog 175 #[.int .u64 x, .int .u64 y] w fun e w' => e = .returned (.int .i64 (cmpI x y)) ∧ w = w' := by
  go_enter Tryz.func175, Tryz.ntmps175
  go_wp2_with (go_at_call 238; refine (isNaN_any _ _).mono ?_; rintro e w' ⟨rfl, rfl⟩)
  all_goals go_ret
  all_goals exact ⟨ret_int (by unfold cmpI; (repeat' split) <;> omega), rfl⟩

/-- the first of two that is not 0 -/
def firstI (x y : Int) : Int := if x = 0 then y else x

set_option maxRecDepth 100000 in
set_option maxHeartbeats 400000 in
theorem first_any (b : Nat) (x y : Int) (w : World) (h0 : w.cell? ⟨b, 0, none⟩ = some (.int .i64 x)) (h1 : w.cell? ⟨b, 1, none⟩ = some (.int .i64 y)) :
    Calls Tryz.prog 174 #[.slice (some ⟨b, 0, none⟩) 2 2] w fun e w' => e = .returned (.int .i64 (firstI x y)) ∧ w = w' := by
  by_cases hx : x = 0
  · subst hx
    by_cases hy : y = 0
    · subst hy
      go_enter Tryz.func174, Tryz.ntmps174
      go_wp2
      refine wp_loop_rounds 3 ?_
      rw [rounds_succ]; go_wp2
      rw [rounds_succ]; go_wp2
      rw [rounds_succ]; go_wp2
      go_ret
      exact ⟨rfl, rfl⟩
    · have hy1 : (y != 0) = true := bne_iff_ne.2 hy
      go_enter Tryz.func174, Tryz.ntmps174
      go_wp2
      refine wp_loop_rounds 2 ?_
      rw [rounds_succ]; go_wp2
      rw [rounds_succ]; go_wp2
      go_ret
      exact ⟨rfl, rfl⟩
  · have hx1 : (x != 0) = true := bne_iff_ne.2 hx
    go_enter Tryz.func174, Tryz.ntmps174
    go_wp2
    refine wp_loop_rounds 1 ?_
    rw [rounds_succ]; go_wp2
    go_ret
    exact ⟨ret_int (by simp [firstI, hx]), rfl⟩

theorem cmp_two {a0 a1 b0 b1 : Int} (h0 : U64 a0) (h1 : U64 a1) (g0 : U64 b0) (g1 : U64 b1) : firstI (cmpI a1 b1) (cmpI a0 b0) = cmpI (val2 a0 a1) (val2 b0 b1) := by
  have := h0.lo; have := h0.hi; have := h1.lo; have := h1.hi; have := g0.lo; have := g0.hi; have := g1.lo; have := g1.hi
  unfold firstI cmpI val2
  (repeat' split) <;> omega

set_option maxRecDepth 100000 in
set_option maxHeartbeats 400000 in
theorem Cmp_any {a0 a1 b0 b1 : Int} (h0 : U64 a0) (h1 : U64 a1) (g0 : U64 b0) (g1 : U64 b1) (w : World) :
    Calls Tryz.prog 106 #[.agg #[.int .u64 a1, .int .u64 a0], .agg #[.int .u64 b1, .int .u64 b0]] w fun e w' =>
      e = .returned (.int .i64 (cmpI (val2 a0 a1) (val2 b0 b1))) ∧ Below w.heap.size w w' := by
  go_enter Tryz.func106, Tryz.ntmps106
  go_wp2
  refine wp_region_still_tail 10 (by kernel_rfl) (by kernel_rfl) ?_
  simp only [List.take_succ_cons, List.take_zero, List.drop_succ_cons, List.drop_zero]
  change wpStill _ _ (World.drew _) _ _ _
  repeat (first | still_step | still_call ((Compare_any _ _ _).mono fun _ _ h => ⟨h.1, h.2.symm⟩))
  refine wpStill_nil ?_
  change wpList _ _ _ _ _ (World.drew _)
  go_wp2_with fail
  refine (first_any _ (cmpI a1 b1) (cmpI a0 b0) _ (by go_simp) (by go_simp)).mono ?_
  rintro e w' ⟨rfl, rfl⟩
  go_wp2
  go_ret
  exact ⟨ret_int (cmp_two h0 h1 g0 g1), (by refine Kept.below ?_; repeat (first | exact Kept.refl _ | refine Kept.alloc ?_ _ | refine Kept.drew ?_ | refine Kept.setCell ?_ (by simp; try omega) _))⟩

theorem bit_hi {a0 a1 : Int} (h0 : U64 a0) (h1 : U64 a1) {i : Int} (k : 63 < i) (k2 : i ≤ 127) : (bits .and .u64 (a1 / 2 ^ (i - 64).toNat) 1 == 1) = bitZ (val2 a0 a1) i := by
  have := part2_bit h0 h1 1 (i - 64).toNat (by omega)
  rw [show 64 * (1 : Int) + ((i - 64).toNat : Nat) = i from by omega] at this
  rw [← this, bit_and h1]; rfl
theorem bit_lo {a0 a1 : Int} (h0 : U64 a0) (h1 : U64 a1) {i : Int} (k : 0 ≤ i) (k2 : i ≤ 63) : (bits .and .u64 (a0 / 2 ^ i.toNat) 1 == 1) = bitZ (val2 a0 a1) i := by
  have := part2_bit h0 h1 0 i.toNat (by omega)
  rw [show 64 * (0 : Int) + (i.toNat : Nat) = i from by omega] at this
  rw [← this, bit_and h0]; rfl
theorem bit_no {a0 a1 : Int} (h0 : U64 a0) (h1 : U64 a1) {i : Int} (k : i < 0 ∨ 127 < i) : false = bitZ (val2 a0 a1) i := by
  unfold bitZ
  rcases k with k | k
  · rw [decide_eq_false (by omega)]; rfl
  · rw [Nat.testBit_lt_two_pow (Nat.lt_of_lt_of_le (val2_lt h0 h1) (Nat.pow_le_pow_right (by omega) (by omega))), Bool.and_false]

set_option maxRecDepth 100000 in
set_option maxHeartbeats 400000 in
theorem Bit_any {a0 a1 : Int} (h0 : U64 a0) (h1 : U64 a1) (i : Int) (w : World) :
    Calls Tryz.prog 212 #[.agg #[.int .u64 a1, .int .u64 a0], .int .i64 i] w fun e w' =>
      e = .returned (.bool (bitZ (val2 a0 a1) i)) ∧ Below w.heap.size w w' := by
  by_cases k : i < 0
  · go_enter Tryz.func212, Tryz.ntmps212
    go_wp2
    go_ret
    exact ⟨ret_bool (bit_no h0 h1 (Or.inl k)), (by refine Kept.below ?_; repeat (first | exact Kept.refl _ | refine Kept.alloc ?_ _ | refine Kept.drew ?_ | refine Kept.setCell ?_ (by simp; try omega) _))⟩
  · by_cases k1 : 127 < i
    · go_enter Tryz.func212, Tryz.ntmps212
      go_wp2
      go_ret
      exact ⟨ret_bool (bit_no h0 h1 (Or.inr k1)), (by refine Kept.below ?_; repeat (first | exact Kept.refl _ | refine Kept.alloc ?_ _ | refine Kept.drew ?_ | refine Kept.setCell ?_ (by simp; try omega) _))⟩
    · by_cases k2 : 63 < i
      · go_enter Tryz.func212, Tryz.ntmps212
        go_wp2
        go_ret
        exact ⟨ret_bool (bit_hi h0 h1 k2 (by omega)), (by refine Kept.below ?_; repeat (first | exact Kept.refl _ | refine Kept.alloc ?_ _ | refine Kept.drew ?_ | refine Kept.setCell ?_ (by simp; try omega) _))⟩
      · go_enter Tryz.func212, Tryz.ntmps212
        go_wp2
        go_ret
        exact ⟨ret_bool (bit_lo h0 h1 (by omega) (by omega)), (by refine Kept.below ?_; repeat (first | exact Kept.refl _ | refine Kept.alloc ?_ _ | refine Kept.drew ?_ | refine Kept.setCell ?_ (by simp; try omega) _))⟩
/-! the same, of numbers -/
theorem Add_at {a1 a0 b1 b0 : Int} {A B : Nat} (ha : IsBits a1 a0 A) (hb : IsBits b1 b0 B) (w : World) :
    Calls Tryz.prog 139 #[.agg #[.int .u64 a1, .int .u64 a0], .agg #[.int .u64 b1, .int .u64 b0]] w fun e w' =>
      e = .returned (.tuple #[bitsV (add128 A B), .bool (carry128 A B)]) ∧ Below w.heap.size w w' := by
  refine (Add_any ha.u0 ha.u1 hb.u0 hb.u1 w).mono fun e w' ⟨he, hk⟩ => ⟨?_, hk⟩
  rw [he, ha.v, hb.v]
  unfold bitsV add128
  rw [limb_mod128 1 _ (by omega), limb_mod128 0 _ (by omega)]; rfl
theorem Sub_at {a1 a0 b1 b0 : Int} {A B : Nat} (ha : IsBits a1 a0 A) (hb : IsBits b1 b0 B) (w : World) :
    Calls Tryz.prog 179 #[.agg #[.int .u64 a1, .int .u64 a0], .agg #[.int .u64 b1, .int .u64 b0]] w fun e w' =>
      e = .returned (.tuple #[bitsV (sub128 A B), .bool (ltB A B)]) ∧ Below w.heap.size w w' := by
  refine (Sub_any ha.u0 ha.u1 hb.u0 hb.u1 w).mono fun e w' ⟨he, hk⟩ => ⟨?_, hk⟩
  rw [he, ha.v, hb.v]
  unfold bitsV sub128
  rw [limb_mod128 1 _ (by omega), limb_mod128 0 _ (by omega)]
theorem Cmp_at {a1 a0 b1 b0 : Int} {A B : Nat} (ha : IsBits a1 a0 A) (hb : IsBits b1 b0 B) (w : World) :
    Calls Tryz.prog 106 #[.agg #[.int .u64 a1, .int .u64 a0], .agg #[.int .u64 b1, .int .u64 b0]] w fun e w' =>
      e = .returned (.int .i64 (cmpN A B)) ∧ Below w.heap.size w w' := by
  refine (Cmp_any ha.u0 ha.u1 hb.u0 hb.u1 w).mono fun e w' ⟨he, hk⟩ => ⟨?_, hk⟩
  rw [he, ha.v, hb.v]; rfl
theorem Mul_at {x y : Int} (hx : U64 x) (hy : U64 y) (w : World) :
    Calls Tryz.prog 225 #[.int .u64 x, .int .u64 y] w fun e w' =>
      e = .returned (bitsV (mulI x y)) ∧ Below w.heap.size w w' := by
  unfold mulI; exact Mul_any hx hy w
theorem Bit_at {a1 a0 : Int} {A : Nat} (ha : IsBits a1 a0 A) (i : Int) (w : World) :
    Calls Tryz.prog 212 #[.agg #[.int .u64 a1, .int .u64 a0], .int .i64 i] w fun e w' =>
      e = .returned (.bool (bitZ A i)) ∧ Below w.heap.size w w' := by
  refine (Bit_any ha.u0 ha.u1 i w).mono fun e w' ⟨he, hk⟩ => ⟨?_, hk⟩
  rw [he, ha.v]
theorem Zero_at {a1 a0 : Int} {A : Nat} (ha : IsBits a1 a0 A) (w : World) :
    Calls Tryz.prog 97 #[.agg #[.int .u64 a1, .int .u64 a0]] w fun e w' =>
      e = .returned (.bool (zeroB A)) ∧ Below w.heap.size w w' := by
  refine (Zero_any a0 a1 w).mono fun e w' ⟨he, hk⟩ => ⟨?_, hk⟩
  rw [he]
  have e1 := ha.v
  have := ha.u0.lo; have := ha.u1.lo
  refine ret_bool ?_
  unfold zeroB
  rw [← e1, Bool.eq_iff_iff, Bool.and_eq_true, decide_eq_true_iff, decide_eq_true_iff, decide_eq_true_iff]
  unfold val2; omega
end Go.Proofs.YtpfoifflfgiaoaaGreatDoor
namespace Go.Proofs.YtpfoifflfgiaoaaGreatDoor
open Go.RowKit

theorem size64 (w : World) : (Go.sizeOf 27).run Tryz.prog w = .ok 1 w := by kernel_rfl
theorem part64 (xs : Array Value) (i : Nat) (v : Value) (h : xs[i]? = some v) (w : World) : (part 27 xs i).run Tryz.prog w = .ok v w := by
  simp [part, go_sem, h]
theorem equalIn_arr4 (d : Nat) (a0 a1 a2 a3 b0 b1 b2 b3 : Int) (w : World) :
    (Op.equalIn (d + 2) 156 (.agg #[.int .u64 a0, .int .u64 a1, .int .u64 a2, .int .u64 a3]) (.agg #[.int .u64 b0, .int .u64 b1, .int .u64 b2, .int .u64 b3])).run Tryz.prog w = .ok (a0 == b0 && (a1 == b1 && (a2 == b2 && a3 == b3))) w := by
  rw [Op.equalIn]
  simp only [Sem.run_bind, run_underlying Tryz.underlying156, Result.andThen_ok, size64]
  have e := fun (x y : Int) (w : World) => run_equalIn_int (P := Tryz.prog) (w := w) d 27 .u64 .u64 x y Tryz.underlying27
  rw [Std.Legacy.Range.forIn_eq_forIn_range']
  simp only [Std.Legacy.Range.size, List.range', List.forIn_cons, Sem.run_bind, Nat.mul_one]
  have p0 := part64 #[.int .u64 a0, .int .u64 a1, .int .u64 a2, .int .u64 a3] (0) (.int .u64 a0) rfl
  have p1 := part64 #[.int .u64 a0, .int .u64 a1, .int .u64 a2, .int .u64 a3] (0 + 1) (.int .u64 a1) rfl
  have p2 := part64 #[.int .u64 a0, .int .u64 a1, .int .u64 a2, .int .u64 a3] (0 + 1 + 1) (.int .u64 a2) rfl
  have p3 := part64 #[.int .u64 a0, .int .u64 a1, .int .u64 a2, .int .u64 a3] (0 + 1 + 1 + 1) (.int .u64 a3) rfl
  have q0 := part64 #[.int .u64 b0, .int .u64 b1, .int .u64 b2, .int .u64 b3] (0) (.int .u64 b0) rfl
  have q1 := part64 #[.int .u64 b0, .int .u64 b1, .int .u64 b2, .int .u64 b3] (0 + 1) (.int .u64 b1) rfl
  have q2 := part64 #[.int .u64 b0, .int .u64 b1, .int .u64 b2, .int .u64 b3] (0 + 1 + 1) (.int .u64 b2) rfl
  have q3 := part64 #[.int .u64 b0, .int .u64 b1, .int .u64 b2, .int .u64 b3] (0 + 1 + 1 + 1) (.int .u64 b3) rfl
  cases h0 : (a0 == b0) <;> cases h1 : (a1 == b1) <;> cases h2 : (a2 == b2) <;> cases h3 : (a3 == b3) <;>
    simp only [p0, p1, p2, p3, q0, q1, q2, q3, e, h0, h1, h2, h3, Result.andThen_ok, Sem.run_bind, Sem.run_pure, Bool.not_true, Bool.not_false, Bool.false_eq_true, if_true, if_false, List.forIn_nil, Bool.and_true, Bool.and_false]

/-- are two of four parts alike? -/
def eqW (a0 a1 a2 a3 b0 b1 b2 b3 : Int) : Bool := a0 == b0 && (a1 == b1 && (a2 == b2 && a3 == b3))
/-- are two numbers alike, in 256 bits? -/
def eqN (A B : Nat) : Bool := decide (A % 2 ^ 256 = B % 2 ^ 256)
@[go_sem] theorem equal_arr4 (a0 a1 a2 a3 b0 b1 b2 b3 : Int) (w : World) :
    (Op.equalIn 10000 156 (.agg #[.int .u64 a0, .int .u64 a1, .int .u64 a2, .int .u64 a3]) (.agg #[.int .u64 b0, .int .u64 b1, .int .u64 b2, .int .u64 b3])).run Tryz.prog w = .ok (eqW a0 a1 a2 a3 b0 b1 b2 b3) w :=
  equalIn_arr4 9998 a0 a1 a2 a3 b0 b1 b2 b3 w
theorem eqW_true {a0 a1 a2 a3 b0 b1 b2 b3 : Int} : eqW a0 a1 a2 a3 b0 b1 b2 b3 = true ↔ a0 = b0 ∧ a1 = b1 ∧ a2 = b2 ∧ a3 = b3 := by
  unfold eqW; simp only [Bool.and_eq_true, beq_iff_eq]
theorem eqW_at {a0 a1 a2 a3 b0 b1 b2 b3 : Int} {A B : Nat} (hA : IsWide a0 a1 a2 a3 A) (hB : IsWide b0 b1 b2 b3 B) : eqW a0 a1 a2 a3 b0 b1 b2 b3 = decide (A = B) := by
  rw [Bool.eq_iff_iff, eqW_true, decide_eq_true_iff]
  constructor
  · rintro ⟨rfl, rfl, rfl, rfl⟩
    rw [← hA.v, ← hB.v]
  · rintro rfl
    exact ⟨hA.e0.trans hB.e0.symm, hA.e1.trans hB.e1.symm, hA.e2.trans hB.e2.symm, hA.e3.trans hB.e3.symm⟩
@[go_sem] theorem eqW_limb (A B : Nat) : eqW (limb 0 A) (limb 1 A) (limb 2 A) (limb 3 A) (limb 0 B) (limb 1 B) (limb 2 B) (limb 3 B) = eqN A B := by
  have hA : W256 (A % 2 ^ 256) := ⟨Nat.mod_lt _ (by omega)⟩
  have hB : W256 (B % 2 ^ 256) := ⟨Nat.mod_lt _ (by omega)⟩
  have := eqW_at (IsWide.of hA) (IsWide.of hB)
  rw [limb_mod256 0 _ (by omega), limb_mod256 1 _ (by omega), limb_mod256 2 _ (by omega), limb_mod256 3 _ (by omega), limb_mod256 0 _ (by omega), limb_mod256 1 _ (by omega), limb_mod256 2 _ (by omega), limb_mod256 3 _ (by omega)] at this
  exact this
@[go_sem] theorem eqN_self (A : Nat) : eqN A A = true := decide_eq_true rfl
theorem eqN_of {A B : Nat} (hA : W256 A) (hB : W256 B) : eqN A B = decide (A = B) := by
  unfold eqN; rw [Nat.mod_eq_of_lt hA.lt, Nat.mod_eq_of_lt hB.lt]
theorem eqN_no {A B : Nat} (hA : W256 A) (hB : W256 B) (h : A ≠ B) : eqN A B = false := by rw [eqN_of hA hB]; exact decide_eq_false h
end Go.Proofs.YtpfoifflfgiaoaaGreatDoor
namespace Go.Proofs.YtpfoifflfgiaoaaGreatDoor
open Go.RowKit

/-- the upper half, the lower half, both joined -/
@[irreducible] def hiN (A : Nat) : Nat := A / 2 ^ 128
@[irreducible] def loN (A : Nat) : Nat := A % 2 ^ 128
@[irreducible] def joinN (H L : Nat) : Nat := H * 2 ^ 128 + L
theorem hi_w {A : Nat} (h : W256 A) : W128 (hiN A) := ⟨by have := h.lt; unfold hiN; omega⟩
theorem lo_w (A : Nat) : W128 (loN A) := ⟨by unfold loN; omega⟩
theorem join_w {H L : Nat} (h : W128 H) (l : W128 L) : W256 (joinN H L) := ⟨by have := h.lt; have := l.lt; unfold joinN; omega⟩
theorem hi_limb1 (A : Nat) (_h : A < 2 ^ 256) : limb 3 A = limb 1 (hiN A) := by unfold limb hiN; omega
theorem hi_limb0 (A : Nat) : limb 2 A = limb 0 (hiN A) := by unfold limb hiN; omega
theorem lo_limb (A i : Nat) (h : i < 2) : limb i A = limb i (loN A) := by unfold loN; exact (limb_mod128 i A h).symm
theorem join_limb0 (H L : Nat) : limb 0 L = limb 0 (joinN H L) := by unfold limb joinN; omega
theorem join_limb1 (H L : Nat) : limb 1 L = limb 1 (joinN H L) := by unfold limb joinN; omega
theorem join_limb2 (H L : Nat) (h : L < 2 ^ 128) : limb 0 H = limb 2 (joinN H L) := by unfold limb joinN; omega
theorem join_limb3 (H L : Nat) (h : L < 2 ^ 128) : limb 1 H = limb 3 (joinN H L) := by unfold limb joinN; omega
theorem small_limb (A i : Nat) (h : A < 2 ^ 128) (hi : 2 ≤ i) : limb i A = 0 := by
  unfold limb
  rw [Nat.div_eq_of_lt (Nat.lt_of_lt_of_le h (Nat.pow_le_pow_right (by omega) (by omega)))]; rfl
theorem cmp_halves_hi {A B : Nat} (h : hiN A ≠ hiN B) : cmpN (hiN A) (hiN B) = cmpN A B := by
  unfold cmpN cmpI hiN at *; (repeat' split) <;> omega
theorem cmp_halves_lo {A B : Nat} (h : hiN A = hiN B) : cmpN (loN A) (loN B) = cmpN A B := by
  unfold cmpN cmpI hiN loN at *; (repeat' split) <;> omega

set_option maxRecDepth 100000 in
set_option maxHeartbeats 1000000 in
theorem Of_at {a1 a0 : Int} {A : Nat} (hA : IsBits a1 a0 A) (w : World) :
    Calls Tryz.prog 101 #[.agg #[.int .u64 a1, .int .u64 a0]] w fun e w' => e = .returned (wideV A) ∧ Below w.heap.size w w' := by
  go_enter Tryz.func101, Tryz.ntmps101
  go_wp2
  refine bodyPost_ret (v := .agg #[.int .u64 a0, .int .u64 a1, .int .u64 0, .int .u64 0]) (by simp [results, Tryz.results101, go_sem]) rfl ⟨?_, (by refine Kept.below ?_; repeat (first | exact Kept.refl _ | refine Kept.alloc ?_ _ | refine Kept.drew ?_ | refine Kept.setCell ?_ (by simp; try omega) _))⟩
  rw [hA.hi, hA.lo]; unfold wideV; rw [small_limb A 2 hA.w.lt (by omega), small_limb A 3 hA.w.lt (by omega)]

set_option maxRecDepth 100000 in
set_option maxHeartbeats 1000000 in
theorem High_at {a0 a1 a2 a3 : Int} {A : Nat} (hA : IsWide a0 a1 a2 a3 A) (w : World) :
    Calls Tryz.prog 219 #[.agg #[.int .u64 a0, .int .u64 a1, .int .u64 a2, .int .u64 a3]] w fun e w' => e = .returned (bitsV (hiN A)) ∧ Below w.heap.size w w' := by
  go_enter Tryz.func219, Tryz.ntmps219
  go_wp2
  refine bodyPost_ret (v := .agg #[.int .u64 a3, .int .u64 a2]) (by simp [results, Tryz.results219, go_sem]) rfl ⟨?_, (by refine Kept.below ?_; repeat (first | exact Kept.refl _ | refine Kept.alloc ?_ _ | refine Kept.drew ?_ | refine Kept.setCell ?_ (by simp; try omega) _))⟩
  rw [hA.e3, hA.e2, hi_limb1 A hA.w.lt, hi_limb0 A]

set_option maxRecDepth 100000 in
set_option maxHeartbeats 1000000 in
theorem Low_at {a0 a1 a2 a3 : Int} {A : Nat} (hA : IsWide a0 a1 a2 a3 A) (w : World) :
    Calls Tryz.prog 227 #[.agg #[.int .u64 a0, .int .u64 a1, .int .u64 a2, .int .u64 a3]] w fun e w' => e = .returned (bitsV (loN A)) ∧ Below w.heap.size w w' := by
  go_enter Tryz.func227, Tryz.ntmps227
  go_wp2
  refine bodyPost_ret (v := .agg #[.int .u64 a1, .int .u64 a0]) (by simp [results, Tryz.results227, go_sem]) rfl ⟨?_, (by refine Kept.below ?_; repeat (first | exact Kept.refl _ | refine Kept.alloc ?_ _ | refine Kept.drew ?_ | refine Kept.setCell ?_ (by simp; try omega) _))⟩
  rw [hA.e1, hA.e0, lo_limb A 1 (by omega), lo_limb A 0 (by omega)]

set_option maxRecDepth 100000 in
set_option maxHeartbeats 1000000 in
theorem Join_at {a1 a0 b1 b0 : Int} {A B : Nat} (hA : IsBits a1 a0 A) (hB : IsBits b1 b0 B) (w : World) :
    Calls Tryz.prog 95 #[.agg #[.int .u64 a1, .int .u64 a0], .agg #[.int .u64 b1, .int .u64 b0]] w fun e w' => e = .returned (wideV (joinN A B)) ∧ Below w.heap.size w w' := by
  go_enter Tryz.func95, Tryz.ntmps95
  go_wp2
  refine bodyPost_ret (v := .agg #[.int .u64 b0, .int .u64 b1, .int .u64 a0, .int .u64 a1]) (by simp [results, Tryz.results95, go_sem]) rfl ⟨?_, (by refine Kept.below ?_; repeat (first | exact Kept.refl _ | refine Kept.alloc ?_ _ | refine Kept.drew ?_ | refine Kept.setCell ?_ (by simp; try omega) _))⟩
  rw [hA.hi, hA.lo, hB.hi, hB.lo, join_limb0 A B, join_limb1 A B, join_limb2 A B hB.w.lt, join_limb3 A B hB.w.lt]

set_option maxRecDepth 100000 in
set_option maxHeartbeats 1000000 in
theorem ZeroW_at {a0 a1 a2 a3 : Int} {A : Nat} (hA : IsWide a0 a1 a2 a3 A) (w : World) :
    Calls Tryz.prog 113 #[.agg #[.int .u64 a0, .int .u64 a1, .int .u64 a2, .int .u64 a3]] w fun e w' => e = .returned (.bool (zeroB A)) ∧ Below w.heap.size w w' := by
  go_enter Tryz.func113, Tryz.ntmps113
  go_wp2
  go_ret
  refine ⟨ret_bool ?_, (by refine Kept.below ?_; repeat (first | exact Kept.refl _ | refine Kept.alloc ?_ _ | refine Kept.drew ?_ | refine Kept.setCell ?_ (by simp; try omega) _))⟩
  rw [eqW_at hA (IsWide.val u64_zero u64_zero u64_zero u64_zero)]; rfl

set_option maxRecDepth 100000 in
set_option maxHeartbeats 1000000 in
theorem CmpW_lt {A B : Nat} (hA : W256 A) (hB : W256 B) (h : hiN A < hiN B) (w : World) :
    Calls Tryz.prog 171 #[wideV A, wideV B] w fun e w' => e = .returned (.int .i64 (cmpN A B)) ∧ Below w.heap.size w w' := by
  have f1 := cmp_lt h
  have HR := Lib.hid ((cmp_lt h).symm.trans (cmp_halves_hi (Nat.ne_of_lt h)))
  clear h
  have hs : ∀ W W' : World, Below W.heap.size W W' → (Kept w.heap.size w W ∧ w.heap.size < W.heap.size ∧ w.heap.size + 1 < W.heap.size ∧ W.cell? ⟨w.heap.size, 0, none⟩ = some (.int .u64 (limb 0 A)) ∧ W.cell? ⟨w.heap.size, 1, none⟩ = some (.int .u64 (limb 1 A)) ∧ W.cell? ⟨w.heap.size, 2, none⟩ = some (.int .u64 (limb 2 A)) ∧ W.cell? ⟨w.heap.size, 3, none⟩ = some (.int .u64 (limb 3 A)) ∧ W.cell? ⟨w.heap.size + 1, 0, none⟩ = some (.int .u64 (limb 0 B)) ∧ W.cell? ⟨w.heap.size + 1, 1, none⟩ = some (.int .u64 (limb 1 B)) ∧ W.cell? ⟨w.heap.size + 1, 2, none⟩ = some (.int .u64 (limb 2 B)) ∧ W.cell? ⟨w.heap.size + 1, 3, none⟩ = some (.int .u64 (limb 3 B))) → (Kept w.heap.size w W' ∧ w.heap.size < W'.heap.size ∧ w.heap.size + 1 < W'.heap.size ∧ W'.cell? ⟨w.heap.size, 0, none⟩ = some (.int .u64 (limb 0 A)) ∧ W'.cell? ⟨w.heap.size, 1, none⟩ = some (.int .u64 (limb 1 A)) ∧ W'.cell? ⟨w.heap.size, 2, none⟩ = some (.int .u64 (limb 2 A)) ∧ W'.cell? ⟨w.heap.size, 3, none⟩ = some (.int .u64 (limb 3 A)) ∧ W'.cell? ⟨w.heap.size + 1, 0, none⟩ = some (.int .u64 (limb 0 B)) ∧ W'.cell? ⟨w.heap.size + 1, 1, none⟩ = some (.int .u64 (limb 1 B)) ∧ W'.cell? ⟨w.heap.size + 1, 2, none⟩ = some (.int .u64 (limb 2 B)) ∧ W'.cell? ⟨w.heap.size + 1, 3, none⟩ = some (.int .u64 (limb 3 B))) := fun W W' hb h => ⟨h.1.step hb, Nat.lt_of_lt_of_le (h.2.1) hb.size, Nat.lt_of_lt_of_le (h.2.2.1) hb.size, (hb.cell (h.2.1)).trans (h.2.2.2.1), (hb.cell (h.2.1)).trans (h.2.2.2.2.1), (hb.cell (h.2.1)).trans (h.2.2.2.2.2.1), (hb.cell (h.2.1)).trans (h.2.2.2.2.2.2.1), (hb.cell (h.2.2.1)).trans (h.2.2.2.2.2.2.2.1), (hb.cell (h.2.2.1)).trans (h.2.2.2.2.2.2.2.2.1), (hb.cell (h.2.2.1)).trans (h.2.2.2.2.2.2.2.2.2.1), (hb.cell (h.2.2.1)).trans (h.2.2.2.2.2.2.2.2.2.2)⟩
  have HS := Lib.hid hs; clear hs
  go_enter Tryz.func171, Tryz.ntmps171
  go_wp2
  go_region_held3 (fun W' => Kept w.heap.size w W' ∧ w.heap.size < W'.heap.size ∧ w.heap.size + 1 < W'.heap.size ∧ W'.cell? ⟨w.heap.size, 0, none⟩ = some (.int .u64 (limb 0 A)) ∧ W'.cell? ⟨w.heap.size, 1, none⟩ = some (.int .u64 (limb 1 A)) ∧ W'.cell? ⟨w.heap.size, 2, none⟩ = some (.int .u64 (limb 2 A)) ∧ W'.cell? ⟨w.heap.size, 3, none⟩ = some (.int .u64 (limb 3 A)) ∧ W'.cell? ⟨w.heap.size + 1, 0, none⟩ = some (.int .u64 (limb 0 B)) ∧ W'.cell? ⟨w.heap.size + 1, 1, none⟩ = some (.int .u64 (limb 1 B)) ∧ W'.cell? ⟨w.heap.size + 1, 2, none⟩ = some (.int .u64 (limb 2 B)) ∧ W'.cell? ⟨w.heap.size + 1, 3, none⟩ = some (.int .u64 (limb 3 B)))
    ((first | exact HS.out _ _ (by assumption) (by assumption) | assumption | exact HS.out _ _ ((Below.refl _ _).drew) (by assumption) | exact ⟨by repeat (first | assumption | exact Kept.refl _ | refine Kept.alloc ?_ _ | refine Kept.drew ?_), by go_simp, by go_simp, by go_simp, by go_simp, by go_simp, by go_simp, by go_simp, by go_simp, by go_simp, by go_simp⟩))
    (first
      | (go_at_call 219; refine (High_at (IsWide.of (by assumption)) _).mono ?_; rintro e w' ⟨rfl, hb⟩)
      | (go_at_call 106; refine (Cmp_at (IsBits.of (hi_w (by assumption))) (IsBits.of (hi_w (by assumption))) _).mono ?_; rintro e w' ⟨rfl, hb⟩))
  all_goals go_wp2
  all_goals go_ret
  all_goals (refine ⟨ret_int (HR.out), ?_⟩; apply kept_of; assumption)

set_option maxRecDepth 100000 in
set_option maxHeartbeats 1000000 in
theorem CmpW_gt {A B : Nat} (hA : W256 A) (hB : W256 B) (h : hiN B < hiN A) (w : World) :
    Calls Tryz.prog 171 #[wideV A, wideV B] w fun e w' => e = .returned (.int .i64 (cmpN A B)) ∧ Below w.heap.size w w' := by
  have f1 := cmp_gt h
  have HR := Lib.hid ((cmp_gt h).symm.trans (cmp_halves_hi (Nat.ne_of_gt h)))
  clear h
  have hs : ∀ W W' : World, Below W.heap.size W W' → (Kept w.heap.size w W ∧ w.heap.size < W.heap.size ∧ w.heap.size + 1 < W.heap.size ∧ W.cell? ⟨w.heap.size, 0, none⟩ = some (.int .u64 (limb 0 A)) ∧ W.cell? ⟨w.heap.size, 1, none⟩ = some (.int .u64 (limb 1 A)) ∧ W.cell? ⟨w.heap.size, 2, none⟩ = some (.int .u64 (limb 2 A)) ∧ W.cell? ⟨w.heap.size, 3, none⟩ = some (.int .u64 (limb 3 A)) ∧ W.cell? ⟨w.heap.size + 1, 0, none⟩ = some (.int .u64 (limb 0 B)) ∧ W.cell? ⟨w.heap.size + 1, 1, none⟩ = some (.int .u64 (limb 1 B)) ∧ W.cell? ⟨w.heap.size + 1, 2, none⟩ = some (.int .u64 (limb 2 B)) ∧ W.cell? ⟨w.heap.size + 1, 3, none⟩ = some (.int .u64 (limb 3 B))) → (Kept w.heap.size w W' ∧ w.heap.size < W'.heap.size ∧ w.heap.size + 1 < W'.heap.size ∧ W'.cell? ⟨w.heap.size, 0, none⟩ = some (.int .u64 (limb 0 A)) ∧ W'.cell? ⟨w.heap.size, 1, none⟩ = some (.int .u64 (limb 1 A)) ∧ W'.cell? ⟨w.heap.size, 2, none⟩ = some (.int .u64 (limb 2 A)) ∧ W'.cell? ⟨w.heap.size, 3, none⟩ = some (.int .u64 (limb 3 A)) ∧ W'.cell? ⟨w.heap.size + 1, 0, none⟩ = some (.int .u64 (limb 0 B)) ∧ W'.cell? ⟨w.heap.size + 1, 1, none⟩ = some (.int .u64 (limb 1 B)) ∧ W'.cell? ⟨w.heap.size + 1, 2, none⟩ = some (.int .u64 (limb 2 B)) ∧ W'.cell? ⟨w.heap.size + 1, 3, none⟩ = some (.int .u64 (limb 3 B))) := fun W W' hb h => ⟨h.1.step hb, Nat.lt_of_lt_of_le (h.2.1) hb.size, Nat.lt_of_lt_of_le (h.2.2.1) hb.size, (hb.cell (h.2.1)).trans (h.2.2.2.1), (hb.cell (h.2.1)).trans (h.2.2.2.2.1), (hb.cell (h.2.1)).trans (h.2.2.2.2.2.1), (hb.cell (h.2.1)).trans (h.2.2.2.2.2.2.1), (hb.cell (h.2.2.1)).trans (h.2.2.2.2.2.2.2.1), (hb.cell (h.2.2.1)).trans (h.2.2.2.2.2.2.2.2.1), (hb.cell (h.2.2.1)).trans (h.2.2.2.2.2.2.2.2.2.1), (hb.cell (h.2.2.1)).trans (h.2.2.2.2.2.2.2.2.2.2)⟩
  have HS := Lib.hid hs; clear hs
  go_enter Tryz.func171, Tryz.ntmps171
  go_wp2
  go_region_held3 (fun W' => Kept w.heap.size w W' ∧ w.heap.size < W'.heap.size ∧ w.heap.size + 1 < W'.heap.size ∧ W'.cell? ⟨w.heap.size, 0, none⟩ = some (.int .u64 (limb 0 A)) ∧ W'.cell? ⟨w.heap.size, 1, none⟩ = some (.int .u64 (limb 1 A)) ∧ W'.cell? ⟨w.heap.size, 2, none⟩ = some (.int .u64 (limb 2 A)) ∧ W'.cell? ⟨w.heap.size, 3, none⟩ = some (.int .u64 (limb 3 A)) ∧ W'.cell? ⟨w.heap.size + 1, 0, none⟩ = some (.int .u64 (limb 0 B)) ∧ W'.cell? ⟨w.heap.size + 1, 1, none⟩ = some (.int .u64 (limb 1 B)) ∧ W'.cell? ⟨w.heap.size + 1, 2, none⟩ = some (.int .u64 (limb 2 B)) ∧ W'.cell? ⟨w.heap.size + 1, 3, none⟩ = some (.int .u64 (limb 3 B)))
    ((first | exact HS.out _ _ (by assumption) (by assumption) | assumption | exact HS.out _ _ ((Below.refl _ _).drew) (by assumption) | exact ⟨by repeat (first | assumption | exact Kept.refl _ | refine Kept.alloc ?_ _ | refine Kept.drew ?_), by go_simp, by go_simp, by go_simp, by go_simp, by go_simp, by go_simp, by go_simp, by go_simp, by go_simp, by go_simp⟩))
    (first
      | (go_at_call 219; refine (High_at (IsWide.of (by assumption)) _).mono ?_; rintro e w' ⟨rfl, hb⟩)
      | (go_at_call 106; refine (Cmp_at (IsBits.of (hi_w (by assumption))) (IsBits.of (hi_w (by assumption))) _).mono ?_; rintro e w' ⟨rfl, hb⟩))
  all_goals go_wp2
  all_goals go_ret
  all_goals (refine ⟨ret_int (HR.out), ?_⟩; apply kept_of; assumption)

set_option maxRecDepth 100000 in
set_option maxHeartbeats 1000000 in
theorem CmpW_eq {A B : Nat} (hA : W256 A) (hB : W256 B) (h : hiN A = hiN B) (w : World) :
    Calls Tryz.prog 171 #[wideV A, wideV B] w fun e w' => e = .returned (.int .i64 (cmpN A B)) ∧ Below w.heap.size w w' := by
  have f1 : cmpN (hiN A) (hiN B) = 0 := by rw [h]; exact cmp_eq _
  have HR := Lib.hid (cmp_halves_lo h)
  clear h
  have hs : ∀ W W' : World, Below W.heap.size W W' → (Kept w.heap.size w W ∧ w.heap.size < W.heap.size ∧ w.heap.size + 1 < W.heap.size ∧ W.cell? ⟨w.heap.size, 0, none⟩ = some (.int .u64 (limb 0 A)) ∧ W.cell? ⟨w.heap.size, 1, none⟩ = some (.int .u64 (limb 1 A)) ∧ W.cell? ⟨w.heap.size, 2, none⟩ = some (.int .u64 (limb 2 A)) ∧ W.cell? ⟨w.heap.size, 3, none⟩ = some (.int .u64 (limb 3 A)) ∧ W.cell? ⟨w.heap.size + 1, 0, none⟩ = some (.int .u64 (limb 0 B)) ∧ W.cell? ⟨w.heap.size + 1, 1, none⟩ = some (.int .u64 (limb 1 B)) ∧ W.cell? ⟨w.heap.size + 1, 2, none⟩ = some (.int .u64 (limb 2 B)) ∧ W.cell? ⟨w.heap.size + 1, 3, none⟩ = some (.int .u64 (limb 3 B))) → (Kept w.heap.size w W' ∧ w.heap.size < W'.heap.size ∧ w.heap.size + 1 < W'.heap.size ∧ W'.cell? ⟨w.heap.size, 0, none⟩ = some (.int .u64 (limb 0 A)) ∧ W'.cell? ⟨w.heap.size, 1, none⟩ = some (.int .u64 (limb 1 A)) ∧ W'.cell? ⟨w.heap.size, 2, none⟩ = some (.int .u64 (limb 2 A)) ∧ W'.cell? ⟨w.heap.size, 3, none⟩ = some (.int .u64 (limb 3 A)) ∧ W'.cell? ⟨w.heap.size + 1, 0, none⟩ = some (.int .u64 (limb 0 B)) ∧ W'.cell? ⟨w.heap.size + 1, 1, none⟩ = some (.int .u64 (limb 1 B)) ∧ W'.cell? ⟨w.heap.size + 1, 2, none⟩ = some (.int .u64 (limb 2 B)) ∧ W'.cell? ⟨w.heap.size + 1, 3, none⟩ = some (.int .u64 (limb 3 B))) := fun W W' hb h => ⟨h.1.step hb, Nat.lt_of_lt_of_le (h.2.1) hb.size, Nat.lt_of_lt_of_le (h.2.2.1) hb.size, (hb.cell (h.2.1)).trans (h.2.2.2.1), (hb.cell (h.2.1)).trans (h.2.2.2.2.1), (hb.cell (h.2.1)).trans (h.2.2.2.2.2.1), (hb.cell (h.2.1)).trans (h.2.2.2.2.2.2.1), (hb.cell (h.2.2.1)).trans (h.2.2.2.2.2.2.2.1), (hb.cell (h.2.2.1)).trans (h.2.2.2.2.2.2.2.2.1), (hb.cell (h.2.2.1)).trans (h.2.2.2.2.2.2.2.2.2.1), (hb.cell (h.2.2.1)).trans (h.2.2.2.2.2.2.2.2.2.2)⟩
  have HS := Lib.hid hs; clear hs
  go_enter Tryz.func171, Tryz.ntmps171
  go_wp2
  go_region_held3 (fun W' => Kept w.heap.size w W' ∧ w.heap.size < W'.heap.size ∧ w.heap.size + 1 < W'.heap.size ∧ W'.cell? ⟨w.heap.size, 0, none⟩ = some (.int .u64 (limb 0 A)) ∧ W'.cell? ⟨w.heap.size, 1, none⟩ = some (.int .u64 (limb 1 A)) ∧ W'.cell? ⟨w.heap.size, 2, none⟩ = some (.int .u64 (limb 2 A)) ∧ W'.cell? ⟨w.heap.size, 3, none⟩ = some (.int .u64 (limb 3 A)) ∧ W'.cell? ⟨w.heap.size + 1, 0, none⟩ = some (.int .u64 (limb 0 B)) ∧ W'.cell? ⟨w.heap.size + 1, 1, none⟩ = some (.int .u64 (limb 1 B)) ∧ W'.cell? ⟨w.heap.size + 1, 2, none⟩ = some (.int .u64 (limb 2 B)) ∧ W'.cell? ⟨w.heap.size + 1, 3, none⟩ = some (.int .u64 (limb 3 B)))
    ((first | exact HS.out _ _ (by assumption) (by assumption) | assumption | exact HS.out _ _ ((Below.refl _ _).drew) (by assumption) | exact ⟨by repeat (first | assumption | exact Kept.refl _ | refine Kept.alloc ?_ _ | refine Kept.drew ?_), by go_simp, by go_simp, by go_simp, by go_simp, by go_simp, by go_simp, by go_simp, by go_simp, by go_simp, by go_simp⟩))
    (first
      | (go_at_call 219; refine (High_at (IsWide.of (by assumption)) _).mono ?_; rintro e w' ⟨rfl, hb⟩)
      | (go_at_call 106; refine (Cmp_at (IsBits.of (hi_w (by assumption))) (IsBits.of (hi_w (by assumption))) _).mono ?_; rintro e w' ⟨rfl, hb⟩))
  all_goals go_wp2
  all_goals (go_region_held3 (fun W' => Kept w.heap.size w W' ∧ w.heap.size < W'.heap.size ∧ w.heap.size + 1 < W'.heap.size ∧ W'.cell? ⟨w.heap.size, 0, none⟩ = some (.int .u64 (limb 0 A)) ∧ W'.cell? ⟨w.heap.size, 1, none⟩ = some (.int .u64 (limb 1 A)) ∧ W'.cell? ⟨w.heap.size, 2, none⟩ = some (.int .u64 (limb 2 A)) ∧ W'.cell? ⟨w.heap.size, 3, none⟩ = some (.int .u64 (limb 3 A)) ∧ W'.cell? ⟨w.heap.size + 1, 0, none⟩ = some (.int .u64 (limb 0 B)) ∧ W'.cell? ⟨w.heap.size + 1, 1, none⟩ = some (.int .u64 (limb 1 B)) ∧ W'.cell? ⟨w.heap.size + 1, 2, none⟩ = some (.int .u64 (limb 2 B)) ∧ W'.cell? ⟨w.heap.size + 1, 3, none⟩ = some (.int .u64 (limb 3 B)))
    ((first | exact HS.out _ _ (by assumption) (by assumption) | assumption | exact HS.out _ _ ((Below.refl _ _).drew) (by assumption) | exact ⟨by repeat (first | assumption | exact Kept.refl _ | refine Kept.alloc ?_ _ | refine Kept.drew ?_), by go_simp, by go_simp, by go_simp, by go_simp, by go_simp, by go_simp, by go_simp, by go_simp, by go_simp, by go_simp⟩))
    (first
      | (go_at_call 227; refine (Low_at (IsWide.of (by assumption)) _).mono ?_; rintro e w' ⟨rfl, hb⟩)
      | (go_at_call 106; refine (Cmp_at (IsBits.of (lo_w _)) (IsBits.of (lo_w _)) _).mono ?_; rintro e w' ⟨rfl, hb⟩)))
  all_goals go_wp2
  all_goals go_ret
  all_goals (refine ⟨ret_int (HR.out), ?_⟩; apply kept_of; assumption)

theorem CmpW_at {a0 a1 a2 a3 b0 b1 b2 b3 : Int} {A B : Nat} (hA : IsWide a0 a1 a2 a3 A) (hB : IsWide b0 b1 b2 b3 B) (w : World) :
    Calls Tryz.prog 171 #[.agg #[.int .u64 a0, .int .u64 a1, .int .u64 a2, .int .u64 a3], .agg #[.int .u64 b0, .int .u64 b1, .int .u64 b2, .int .u64 b3]] w fun e w' => e = .returned (.int .i64 (cmpN A B)) ∧ Below w.heap.size w w' := by
  rw [hA.e0, hA.e1, hA.e2, hA.e3, hB.e0, hB.e1, hB.e2, hB.e3]
  rcases Nat.lt_trichotomy (hiN A) (hiN B) with h | h | h
  · exact CmpW_lt hA.w hB.w h w
  · exact CmpW_eq hA.w hB.w h w
  · exact CmpW_gt hA.w hB.w h w
end Go.Proofs.YtpfoifflfgiaoaaGreatDoor
namespace Go.Proofs.YtpfoifflfgiaoaaGreatDoor
open Go.RowKit

def isU64 (a : Int) : Bool := decide (0 ≤ a) && decide (a < 2 ^ 64)
theorem isU64_mk {a : Int} (h : isU64 a = true) : U64 a := by unfold isU64 at h; simp only [Bool.and_eq_true, decide_eq_true_eq] at h; exact ⟨h.1, h.2⟩
end Go.Proofs.YtpfoifflfgiaoaaGreatDoor
namespace Go.Proofs.YtpfoifflfgiaoaaGreatDoor

/-- what is carried into place i; what is borrowed from it -/
def carN (i A B : Nat) : Int := (((A % 2 ^ (64 * i) + B % 2 ^ (64 * i)) / 2 ^ (64 * i) : Nat) : Int)
def borN (i A B : Nat) : Int := if A % 2 ^ (64 * i) < B % 2 ^ (64 * i) then 1 else 0
theorem carN_zero (A B : Nat) : carN 0 A B = 0 := by unfold carN; simp [Nat.mod_one]
theorem borN_zero (A B : Nat) : borN 0 A B = 0 := by unfold borN; simp [Nat.mod_one]

theorem split_at (A m : Nat) (hm : 0 < m) : ∃ h l, A = h * m + l ∧ l < m ∧ A / m = h ∧ A % m = l :=
  ⟨A / m, A % m, by rw [Nat.mul_comm]; exact (Nat.div_add_mod A m).symm, Nat.mod_lt _ hm, rfl, rfl⟩
theorem div_of {h l m : Nat} (hl : l < m) : (h * m + l) / m = h := by
  rw [Nat.mul_comm, Nat.mul_add_div (by omega), Nat.div_eq_of_lt hl, Nat.add_zero]
theorem mod_big (A m K : Nat) : A % (m * K) = A / m % K * m + A % m := by
  rw [Nat.mod_mul, Nat.mul_comm, Nat.add_comm]

theorem sum_step (A B m : Nat) (hm : 0 < m) : (A + B) / m = A / m + B / m + (A % m + B % m) / m := by
  obtain ⟨h, l, e, hl, e1, e2⟩ := split_at A m hm
  obtain ⟨h', l', e', hl', e1', e2'⟩ := split_at B m hm
  rw [e1, e2, e1', e2']
  rw [show A + B = (l + l') + (h + h') * m by rw [e, e', Nat.add_mul]; omega, Nat.add_mul_div_right _ _ hm]; omega
theorem car_step (A B m K : Nat) (hm : 0 < m) : (A % (m * K) + B % (m * K)) / (m * K) = (A / m % K + B / m % K + (A % m + B % m) / m) / K := by
  rw [← Nat.div_div_eq_div_mul, mod_big, mod_big]
  rw [show A / m % K * m + A % m + (B / m % K * m + B % m) = (A % m + B % m) + (A / m % K + B / m % K) * m by rw [Nat.add_mul]; omega, Nat.add_mul_div_right _ _ hm]
  congr 1; omega
theorem sum_limb (A B i : Nat) : sumI (limb i A) (limb i B) (carN i A B) = limb i (A + B) := by
  have h := sum_step A B (2 ^ (64 * i)) (Nat.two_pow_pos _)
  unfold sumI limb carN
  rw [h]
  generalize A / 2 ^ (64 * i) = x
  generalize B / 2 ^ (64 * i) = y
  generalize (A % 2 ^ (64 * i) + B % 2 ^ (64 * i)) / 2 ^ (64 * i) = z
  omega
theorem car_limb (A B i : Nat) : carI (limb i A) (limb i B) (carN i A B) = carN (i + 1) A B := by
  have h := car_step A B (2 ^ (64 * i)) (2 ^ 64) (Nat.two_pow_pos _)
  rw [← Nat.pow_add, show 64 * i + 64 = 64 * (i + 1) by omega] at h
  unfold carI limb carN
  rw [h]
  generalize A / 2 ^ (64 * i) = x
  generalize B / 2 ^ (64 * i) = y
  generalize (A % 2 ^ (64 * i) + B % 2 ^ (64 * i)) / 2 ^ (64 * i) = z
  omega
theorem bor_step (A B m K : Nat) (hm : 0 < m) : A % (m * K) < B % (m * K) ↔ A / m % K < B / m % K + (if A % m < B % m then 1 else 0) := by
  rw [mod_big A, mod_big B]
  generalize A / m % K = x
  generalize B / m % K = y
  have ha := Nat.mod_lt A hm
  have hb := Nat.mod_lt B hm
  generalize A % m = a at *
  generalize B % m = b at *
  rcases Nat.lt_trichotomy x y with h | h | h
  · have h2 : x * m + m ≤ y * m := by rw [← Nat.succ_mul]; exact Nat.mul_le_mul_right m h
    constructor
    · intro _; omega
    · intro _; omega
  · subst h
    split <;> constructor <;> omega
  · have h2 : y * m + m ≤ x * m := by rw [← Nat.succ_mul]; exact Nat.mul_le_mul_right m h
    constructor
    · intro h3; omega
    · intro h3; split at h3 <;> omega
theorem bor_limb (A B i : Nat) : borI (limb i A) (limb i B) (borN i A B) = borN (i + 1) A B := by
  have h := bor_step A B (2 ^ (64 * i)) (2 ^ 64) (Nat.two_pow_pos _)
  rw [← Nat.pow_add, show 64 * i + 64 = 64 * (i + 1) by omega] at h
  unfold borI limb borN
  by_cases k : A % 2 ^ (64 * (i + 1)) < B % 2 ^ (64 * (i + 1))
  · rw [if_pos k, if_pos]
    have := h.1 k
    split at this <;> split <;> omega
  · rw [if_neg k, if_neg]
    intro k2
    apply k
    apply h.2
    split at k2 <;> split <;> omega
theorem dif_step (A B m N : Nat) (hm : 0 < m) (hB : B ≤ N * m) : (A + N * m - B) / m + B / m + (if A % m < B % m then 1 else 0) = A / m + N := by
  obtain ⟨h, l, e, hl, e1, e2⟩ := split_at A m hm
  obtain ⟨h', l', e', hl', e1', e2'⟩ := split_at B m hm
  rw [e1, e2, e1', e2']
  have hle : h' ≤ N := by
    rcases Nat.lt_or_ge N h' with k | k
    · have := Nat.mul_le_mul_right m k
      rw [Nat.succ_mul] at this
      omega
    · exact k
  obtain ⟨d, rfl⟩ := Nat.exists_eq_add_of_le hle
  split
  · rename_i k
    have hd : 1 ≤ h + d := by
      rcases Nat.eq_zero_or_pos d with k2 | k2
      · subst k2
        rw [e', Nat.add_zero] at hB
        omega
      · omega
    obtain ⟨c, hc⟩ := Nat.exists_eq_add_of_le hd
    have : A + (h' + d) * m - B = c * m + (m + l - l') := by
      rw [e, e', Nat.add_mul]
      have : h * m + d * m = m + c * m := by rw [← Nat.add_mul, hc, Nat.add_mul, Nat.one_mul]
      omega
    rw [this, div_of (by omega)]
    omega
  · rename_i k
    have : A + (h' + d) * m - B = (h + d) * m + (l - l') := by
      rw [e, e', Nat.add_mul, Nat.add_mul]
      omega
    rw [this, div_of (by omega)]
    omega
theorem dif_limb (A B i : Nat) (hi : i < 4) (hB : B < 2 ^ 256) : difI (limb i A) (limb i B) (borN i A B) = limb i (A + 2 ^ 256 - B) := by
  have hp : (2 : Nat) ^ 256 = 2 ^ (64 * (3 - i)) * 2 ^ 64 * 2 ^ (64 * i) := by rw [← Nat.pow_add, ← Nat.pow_add]; congr 1; omega
  have h := dif_step A B (2 ^ (64 * i)) (2 ^ (64 * (3 - i)) * 2 ^ 64) (Nat.two_pow_pos _) (by omega)
  rw [← hp] at h
  unfold difI limb borN
  generalize (A + 2 ^ 256 - B) / 2 ^ (64 * i) = s at *
  generalize A / 2 ^ (64 * i) = x at *
  generalize B / 2 ^ (64 * i) = y at *
  generalize 2 ^ (64 * (3 - i)) = t at *
  split at h <;> (rename_i k; simp only [k, if_true, if_false]; omega)
theorem carN_four {A B : Nat} (hA : W256 A) (hB : W256 B) : (carN 4 A B != 0) = carry256 A B := by
  have := hA.lt; have := hB.lt
  unfold carN carry256
  rw [show 64 * 4 = 256 from rfl, Nat.mod_eq_of_lt hA.lt, Nat.mod_eq_of_lt hB.lt, Bool.eq_iff_iff, bne_iff_ne, decide_eq_true_iff]
  omega
theorem borN_four {A B : Nat} (hA : W256 A) (hB : W256 B) : (borN 4 A B != 0) = ltB A B := by
  unfold borN ltB
  rw [show 64 * 4 = 256 from rfl, Nat.mod_eq_of_lt hA.lt, Nat.mod_eq_of_lt hB.lt, Bool.eq_iff_iff, bne_iff_ne, decide_eq_true_iff]
  split <;> simp_all
end Go.Proofs.YtpfoifflfgiaoaaGreatDoor
namespace Go.Proofs.YtpfoifflfgiaoaaGreatDoor
open Go.RowKit

theorem chSt_sum (A B : Nat) : ∀ k, k ≤ 4 → (chSt sumI carI A B (fourth k)).2 = carN k A B ∧ ∀ i, i < k → (chSt sumI carI A B (fourth k)).1 i = limb i (A + B)
  | 0, _ => ⟨(carN_zero A B).symm, fun i hi => absurd hi (by omega)⟩
  | k + 1, hk => by
    obtain ⟨h1, h2⟩ := chSt_sum A B k (by omega)
    rw [fourth_succ (by omega), chSt_snoc]
    refine ⟨by rw [h1]; exact car_limb A B k, fun i hi => ?_⟩
    by_cases e : i = k
    · subst e; simp only [if_true]; rw [h1]; exact sum_limb A B i
    · simp only [if_neg e]; exact h2 i (by omega)
theorem chSt_dif (A B : Nat) (hB : B < 2 ^ 256) : ∀ k, k ≤ 4 → (chSt difI borI A B (fourth k)).2 = borN k A B ∧ ∀ i, i < k → (chSt difI borI A B (fourth k)).1 i = limb i (A + 2 ^ 256 - B)
  | 0, _ => ⟨(borN_zero A B).symm, fun i hi => absurd hi (by omega)⟩
  | k + 1, hk => by
    obtain ⟨h1, h2⟩ := chSt_dif A B hB k (by omega)
    rw [fourth_succ (by omega), chSt_snoc]
    refine ⟨by rw [h1]; exact bor_limb A B k, fun i hi => ?_⟩
    by_cases e : i = k
    · subst e; simp only [if_true]; rw [h1]; exact dif_limb A B i (by omega) hB
    · simp only [if_neg e]; exact h2 i (by omega)

theorem chain_Add {A B : Nat} (hA : W256 A) (hB : W256 B) (w : World) :
    Calls Tryz.prog 176 #[wideV A, wideV B, .func (.func 177) #[] #[]] w fun e w' => e = .returned (.tuple #[wideV (add256 A B), .bool (carry256 A B)]) ∧ Below w.heap.size w w' := by
  refine (callsIn_wide (n := 3)).1 ?_
  refine (chain_in Fence.wide rfl 3 (by omega) 177 sumI carI (fun x y c hx hy h0 h1 => carI_bit hx hy h0 h1) (fun x y c w hx hy h0 h1 => add64_run hx hy h0 h1 w) A B w).mono fun e w' ⟨he, hk⟩ => ⟨?_, hk⟩
  obtain ⟨h1, h2⟩ := chSt_sum A B 4 (by omega)
  rw [he, h1, h2 0 (by omega), h2 1 (by omega), h2 2 (by omega), h2 3 (by omega), carN_four hA hB]
  unfold wideV add256
  rw [limb_mod256 0 _ (by omega), limb_mod256 1 _ (by omega), limb_mod256 2 _ (by omega), limb_mod256 3 _ (by omega)]
set_option maxRecDepth 100000 in
set_option maxHeartbeats 1000000 in
theorem AddW_at {a0 a1 a2 a3 b0 b1 b2 b3 : Int} {A B : Nat} (hA : IsWide a0 a1 a2 a3 A) (hB : IsWide b0 b1 b2 b3 B) (w : World) :
    Calls Tryz.prog 107 #[.agg #[.int .u64 a0, .int .u64 a1, .int .u64 a2, .int .u64 a3], .agg #[.int .u64 b0, .int .u64 b1, .int .u64 b2, .int .u64 b3]] w fun e w' => e = .returned (.tuple #[wideV (add256 A B), .bool (carry256 A B)]) ∧ Below w.heap.size w w' := by
  rw [hA.e0, hA.e1, hA.e2, hA.e3, hB.e0, hB.e1, hB.e2, hB.e3]
  have hk := Kept.refl w
  have hE := Known.nil w
  go_enter Tryz.func107, Tryz.ntmps107
  go_wp2_with (go_at_call 176; refine (chain_Add hA.w hB.w _).mono ?_; rintro e w' ⟨rfl, hb⟩; replace hE : Known _ w' := Known.step hE (by refine Kept.below ?_; repeat (first | exact Kept.refl _ | refine Kept.alloc ?_ _ | refine Kept.drew ?_ | refine Kept.setCell ?_ (by simp) _)) hb; have hR := hE; (simp only [Known, and_true] at hR); replace hk : Kept w.heap.size w w' := Kept.step (by repeat (first | exact hk | refine Kept.alloc ?_ _ | refine Kept.drew ?_ | refine Kept.setCell ?_ (by simp; omega) _)) hb; have hz := hb.size; (try simp only [World.size_alloc, World.size_setCell] at hz); clear hb)
  refine bodyPost_ret (v := .tuple #[wideV (add256 A B), .bool (carry256 A B)]) (by simp [results, Tryz.results107, go_sem, hR]) rfl ⟨rfl, ?_⟩
  refine Kept.below ?_; repeat (first | with_reducible exact hk | with_reducible refine Kept.alloc ?_ _ | with_reducible refine Kept.drew ?_ | with_reducible refine Kept.setCell ?_ (by simp; try omega) _)

theorem chain_Sub {A B : Nat} (hA : W256 A) (hB : W256 B) (w : World) :
    Calls Tryz.prog 176 #[wideV A, wideV B, .func (.func 178) #[] #[]] w fun e w' => e = .returned (.tuple #[wideV (sub256 A B), .bool (ltB A B)]) ∧ Below w.heap.size w w' := by
  refine (callsIn_wide (n := 3)).1 ?_
  refine (chain_in Fence.wide rfl 3 (by omega) 178 difI borI (fun x y c _ _ _ _ => borI_bit x y c) (fun x y c w hx hy h0 h1 => sub64_run hx hy h0 h1 w) A B w).mono fun e w' ⟨he, hk⟩ => ⟨?_, hk⟩
  obtain ⟨h1, h2⟩ := chSt_dif A B hB.lt 4 (by omega)
  rw [he, h1, h2 0 (by omega), h2 1 (by omega), h2 2 (by omega), h2 3 (by omega), borN_four hA hB]
  unfold wideV sub256
  rw [limb_mod256 0 _ (by omega), limb_mod256 1 _ (by omega), limb_mod256 2 _ (by omega), limb_mod256 3 _ (by omega)]
set_option maxRecDepth 100000 in
set_option maxHeartbeats 1000000 in
theorem SubW_at {a0 a1 a2 a3 b0 b1 b2 b3 : Int} {A B : Nat} (hA : IsWide a0 a1 a2 a3 A) (hB : IsWide b0 b1 b2 b3 B) (w : World) :
    Calls Tryz.prog 108 #[.agg #[.int .u64 a0, .int .u64 a1, .int .u64 a2, .int .u64 a3], .agg #[.int .u64 b0, .int .u64 b1, .int .u64 b2, .int .u64 b3]] w fun e w' => e = .returned (.tuple #[wideV (sub256 A B), .bool (ltB A B)]) ∧ Below w.heap.size w w' := by
  rw [hA.e0, hA.e1, hA.e2, hA.e3, hB.e0, hB.e1, hB.e2, hB.e3]
  have hk := Kept.refl w
  have hE := Known.nil w
  go_enter Tryz.func108, Tryz.ntmps108
  go_wp2_with (go_at_call 176; refine (chain_Sub hA.w hB.w _).mono ?_; rintro e w' ⟨rfl, hb⟩; replace hE : Known _ w' := Known.step hE (by refine Kept.below ?_; repeat (first | exact Kept.refl _ | refine Kept.alloc ?_ _ | refine Kept.drew ?_ | refine Kept.setCell ?_ (by simp) _)) hb; have hR := hE; (simp only [Known, and_true] at hR); replace hk : Kept w.heap.size w w' := Kept.step (by repeat (first | exact hk | refine Kept.alloc ?_ _ | refine Kept.drew ?_ | refine Kept.setCell ?_ (by simp; omega) _)) hb; have hz := hb.size; (try simp only [World.size_alloc, World.size_setCell] at hz); clear hb)
  refine bodyPost_ret (v := .tuple #[wideV (sub256 A B), .bool (ltB A B)]) (by simp [results, Tryz.results108, go_sem, hR]) rfl ⟨rfl, ?_⟩
  refine Kept.below ?_; repeat (first | with_reducible exact hk | with_reducible refine Kept.alloc ?_ _ | with_reducible refine Kept.drew ?_ | with_reducible refine Kept.setCell ?_ (by simp; try omega) _)

end Go.Proofs.YtpfoifflfgiaoaaGreatDoor
