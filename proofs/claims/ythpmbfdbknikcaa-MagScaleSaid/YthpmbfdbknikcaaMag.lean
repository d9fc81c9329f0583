/- The contracts of package mag. -/
import Derived.Test.YthpmbfdbknikcaaNum17
import Derived.Test.YthpmbfdbknikcaaWide2
import Derived.Test.YthpmbfdbknikcaaRegion2
import Derived.LoopN
set_option linter.unusedVariables false
set_option linter.unusedSimpArgs false
namespace Go.Proofs.Ythpmbfdbknikcaa
open Go.RowKit

abbrev termV (x : Int) (A : Nat) : Value := .agg #[.int .i64 x, .int .u64 (limb 0 A), .int .u64 (limb 1 A), .int .u64 (limb 2 A), .int .u64 (limb 3 A)]
section
variable {w : World} {b : Nat} {u0 u1 u2 u3 u4 u5 u6 u7 v : Value}
theorem Box.set80 (h : Box w b #[u0, u1, u2, u3, u4, u5, u6, u7]) : Box (w.setCell ⟨b, 0, none⟩ v) b #[v, u1, u2, u3, u4, u5, u6, u7] := h.set
theorem Box.set81 (h : Box w b #[u0, u1, u2, u3, u4, u5, u6, u7]) : Box (w.setCell ⟨b, 1, none⟩ v) b #[u0, v, u2, u3, u4, u5, u6, u7] := h.set
theorem Box.set82 (h : Box w b #[u0, u1, u2, u3, u4, u5, u6, u7]) : Box (w.setCell ⟨b, 2, none⟩ v) b #[u0, u1, v, u3, u4, u5, u6, u7] := h.set
theorem Box.set83 (h : Box w b #[u0, u1, u2, u3, u4, u5, u6, u7]) : Box (w.setCell ⟨b, 3, none⟩ v) b #[u0, u1, u2, v, u4, u5, u6, u7] := h.set
theorem Box.set84 (h : Box w b #[u0, u1, u2, u3, u4, u5, u6, u7]) : Box (w.setCell ⟨b, 4, none⟩ v) b #[u0, u1, u2, u3, v, u5, u6, u7] := h.set
theorem Box.set85 (h : Box w b #[u0, u1, u2, u3, u4, u5, u6, u7]) : Box (w.setCell ⟨b, 5, none⟩ v) b #[u0, u1, u2, u3, u4, v, u6, u7] := h.set
theorem Box.set86 (h : Box w b #[u0, u1, u2, u3, u4, u5, u6, u7]) : Box (w.setCell ⟨b, 6, none⟩ v) b #[u0, u1, u2, u3, u4, u5, v, u7] := h.set
theorem Box.set87 (h : Box w b #[u0, u1, u2, u3, u4, u5, u6, u7]) : Box (w.setCell ⟨b, 7, none⟩ v) b #[u0, u1, u2, u3, u4, u5, u6, v] := h.set
end

set_option maxRecDepth 100000 in
set_option maxHeartbeats 8000000 in
theorem exp_any (x : Int) (A : Nat) (w : World) :
    Calls Try.prog 71 #[termV x A] w fun e w' => e = .returned (.int .i64 (expI x)) ∧ Below w.heap.size w w' := by
  have hk := Kept.refl w
  by_cases h1 : x < -1099511627776
  · have HE : expI x = -1099511627776 := by unfold expI; rw [if_pos h1]
    rw [HE]; clear HE
    go_enter Try.func71, Try.ntmps71
    go_wp2
    go_ret
    exact ⟨rfl, (by refine Kept.below ?_; repeat (first | with_reducible exact hk | with_reducible exact Kept.refl _ | with_reducible refine Kept.alloc ?_ _ | with_reducible refine Kept.drew ?_ | with_reducible refine Kept.setCell ?_ (by simp only [World.size_alloc, World.size_setCell, World.size_drew]; omega) _))⟩
  · by_cases h2 : 1099511627776 < x
    · have HE : expI x = 1099511627776 := by unfold expI; rw [if_neg h1, if_pos h2]
      rw [HE]; clear HE
      go_enter Try.func71, Try.ntmps71
      go_wp2
      go_ret
      exact ⟨rfl, (by refine Kept.below ?_; repeat (first | with_reducible exact hk | with_reducible exact Kept.refl _ | with_reducible refine Kept.alloc ?_ _ | with_reducible refine Kept.drew ?_ | with_reducible refine Kept.setCell ?_ (by simp only [World.size_alloc, World.size_setCell, World.size_drew]; omega) _))⟩
    · have HE : expI x = x := by unfold expI; rw [if_neg h1, if_neg h2]
      rw [HE]; clear HE
      go_enter Try.func71, Try.ntmps71
      go_wp2
      all_goals go_ret
      all_goals exact ⟨ret_int (by omega), (by refine Kept.below ?_; repeat (first | with_reducible exact hk | with_reducible exact Kept.refl _ | with_reducible refine Kept.alloc ?_ _ | with_reducible refine Kept.drew ?_ | with_reducible refine Kept.setCell ?_ (by simp only [World.size_alloc, World.size_setCell, World.size_drew]; omega) _))⟩
theorem expI_i64 (x : Int) : -9223372036854775808 ≤ expI x ∧ expI x ≤ 9223372036854775807 := by have := expI_range x; omega
theorem level_dec (x y : Int) (A B : Nat) : levelI x A y B = if A = 0 ∧ B ≠ 0 then y else if B = 0 ∧ A ≠ 0 then x else maxI x y := rfl
set_option maxRecDepth 100000 in
set_option maxHeartbeats 8000000 in
theorem level_b {x y : Int} {A B : Nat} (hA : W256 A) (hB : W256 B) (hA0 : A = 0) (hB0 : ¬ B = 0) (w : World) :
    Calls Try.prog 80 #[termV x A, termV y B] w fun e w' => e = .returned (.int .i64 (levelI (expI x) A (expI y) B)) ∧ Below w.heap.size w w' := by
  have hk := Kept.refl w
  have zA : zeroB A = true := decide_eq_true hA0
  have zB : zeroB B = false := decide_eq_false hB0
  have HL := Lib.hid (show expI y = levelI (expI x) A (expI y) B by rw [level_dec]; simp [hA0, hB0])
  clear hA0 hB0
  go_enter Try.func80, Try.ntmps80
  go_wp2_with fail
  (with_reducible refine (ZeroW_at (IsWide.of hA) _).mono ?_)
  rintro e w1 ⟨rfl, hb⟩
  have Ba' : Box w1 (w.heap.size) #[.int .i64 (x), .int .u64 (limb 0 A), .int .u64 (limb 1 A), .int .u64 (limb 2 A), .int .u64 (limb 3 A)] := Box.call hb (by repeat (first | with_reducible assumption | with_reducible apply Box.set10 | with_reducible apply Box.set20 | with_reducible apply Box.set21 | with_reducible apply Box.set40 | with_reducible apply Box.set41 | with_reducible apply Box.set42 | with_reducible apply Box.set43 | with_reducible apply Box.set50 | with_reducible apply Box.set51 | with_reducible apply Box.set52 | with_reducible apply Box.set53 | with_reducible apply Box.set54 | with_reducible apply Box.drew | (with_reducible apply Box.newAt; (try simp only [World.size_alloc, World.size_setCell, World.size_drew]); done) | with_reducible apply Box.alloc | (with_reducible apply Box.other; case hne => ((try simp only [World.size_alloc, World.size_setCell, World.size_drew]); omega))))
  have Bb' : Box w1 (w.heap.size + 1) #[.int .i64 (y), .int .u64 (limb 0 B), .int .u64 (limb 1 B), .int .u64 (limb 2 B), .int .u64 (limb 3 B)] := Box.call hb (by repeat (first | with_reducible assumption | with_reducible apply Box.set10 | with_reducible apply Box.set20 | with_reducible apply Box.set21 | with_reducible apply Box.set40 | with_reducible apply Box.set41 | with_reducible apply Box.set42 | with_reducible apply Box.set43 | with_reducible apply Box.set50 | with_reducible apply Box.set51 | with_reducible apply Box.set52 | with_reducible apply Box.set53 | with_reducible apply Box.set54 | with_reducible apply Box.drew | (with_reducible apply Box.newAt; (try simp only [World.size_alloc, World.size_setCell, World.size_drew]); done) | with_reducible apply Box.alloc | (with_reducible apply Box.other; case hne => ((try simp only [World.size_alloc, World.size_setCell, World.size_drew]); omega))))
  have hk' : Kept w.heap.size w w1 := Kept.step (by repeat (first | with_reducible exact hk | with_reducible exact Kept.refl _ | with_reducible refine Kept.alloc ?_ _ | with_reducible refine Kept.drew ?_ | with_reducible refine Kept.setCell ?_ (by simp only [World.size_alloc, World.size_setCell, World.size_drew]; omega) _)) hb
  clear hk hb
  have Ba := Ba'
  clear Ba'
  have Bb := Bb'
  clear Bb'
  have hk := hk'
  clear hk'
  have hz_w1 := hk.size
  have Bal := Ba.lt
  have Baf := Ba.free
  have Bal1 : w.heap.size < w1.heap.size + 1 := by omega
  have Bal2 : w.heap.size < w1.heap.size + 1 + 1 := by omega
  have Bal3 : w.heap.size < w1.heap.size + 1 + 1 + 1 := by omega
  have Ba0 := Ba.cell 0 _ rfl
  have Ba1 := Ba.cell 1 _ rfl
  have Ba2 := Ba.cell 2 _ rfl
  have Ba3 := Ba.cell 3 _ rfl
  have Ba4 := Ba.cell 4 _ rfl
  have Bbl := Bb.lt
  have Bbf := Bb.free
  have Bbl1 : w.heap.size + 1 < w1.heap.size + 1 := by omega
  have Bbl2 : w.heap.size + 1 < w1.heap.size + 1 + 1 := by omega
  have Bbl3 : w.heap.size + 1 < w1.heap.size + 1 + 1 + 1 := by omega
  have Bb0 := Bb.cell 0 _ rfl
  have Bb1 := Bb.cell 1 _ rfl
  have Bb2 := Bb.cell 2 _ rfl
  have Bb3 := Bb.cell 3 _ rfl
  have Bb4 := Bb.cell 4 _ rfl
  go_wp2_with fail
  (with_reducible refine (ZeroW_at (IsWide.of hB) _).mono ?_)
  rintro e w2 ⟨rfl, hb⟩
  have Ba' : Box w2 (w.heap.size) #[.int .i64 (x), .int .u64 (limb 0 A), .int .u64 (limb 1 A), .int .u64 (limb 2 A), .int .u64 (limb 3 A)] := Box.call hb (by repeat (first | with_reducible assumption | with_reducible apply Box.set10 | with_reducible apply Box.set20 | with_reducible apply Box.set21 | with_reducible apply Box.set40 | with_reducible apply Box.set41 | with_reducible apply Box.set42 | with_reducible apply Box.set43 | with_reducible apply Box.set50 | with_reducible apply Box.set51 | with_reducible apply Box.set52 | with_reducible apply Box.set53 | with_reducible apply Box.set54 | with_reducible apply Box.drew | (with_reducible apply Box.newAt; (try simp only [World.size_alloc, World.size_setCell, World.size_drew]); done) | with_reducible apply Box.alloc | (with_reducible apply Box.other; case hne => ((try simp only [World.size_alloc, World.size_setCell, World.size_drew]); omega))))
  have Bb' : Box w2 (w.heap.size + 1) #[.int .i64 (y), .int .u64 (limb 0 B), .int .u64 (limb 1 B), .int .u64 (limb 2 B), .int .u64 (limb 3 B)] := Box.call hb (by repeat (first | with_reducible assumption | with_reducible apply Box.set10 | with_reducible apply Box.set20 | with_reducible apply Box.set21 | with_reducible apply Box.set40 | with_reducible apply Box.set41 | with_reducible apply Box.set42 | with_reducible apply Box.set43 | with_reducible apply Box.set50 | with_reducible apply Box.set51 | with_reducible apply Box.set52 | with_reducible apply Box.set53 | with_reducible apply Box.set54 | with_reducible apply Box.drew | (with_reducible apply Box.newAt; (try simp only [World.size_alloc, World.size_setCell, World.size_drew]); done) | with_reducible apply Box.alloc | (with_reducible apply Box.other; case hne => ((try simp only [World.size_alloc, World.size_setCell, World.size_drew]); omega))))
  have hk' : Kept w.heap.size w w2 := Kept.step (by repeat (first | with_reducible exact hk | with_reducible exact Kept.refl _ | with_reducible refine Kept.alloc ?_ _ | with_reducible refine Kept.drew ?_ | with_reducible refine Kept.setCell ?_ (by simp only [World.size_alloc, World.size_setCell, World.size_drew]; omega) _)) hb
  clear hk hb
  clear Ba Bal1 Bal2 Bal3 Baf Ba0 Ba1 Ba2 Ba3 Ba4
  clear Bb Bbl1 Bbl2 Bbl3 Bbf Bb0 Bb1 Bb2 Bb3 Bb4
  have Ba := Ba'
  clear Ba'
  have Bb := Bb'
  clear Bb'
  have hk := hk'
  clear hk'
  have hz_w2 := hk.size
  have Bal := Ba.lt
  have Baf := Ba.free
  have Bal1 : w.heap.size < w2.heap.size + 1 := by omega
  have Bal2 : w.heap.size < w2.heap.size + 1 + 1 := by omega
  have Bal3 : w.heap.size < w2.heap.size + 1 + 1 + 1 := by omega
  have Ba0 := Ba.cell 0 _ rfl
  have Ba1 := Ba.cell 1 _ rfl
  have Ba2 := Ba.cell 2 _ rfl
  have Ba3 := Ba.cell 3 _ rfl
  have Ba4 := Ba.cell 4 _ rfl
  have Bbl := Bb.lt
  have Bbf := Bb.free
  have Bbl1 : w.heap.size + 1 < w2.heap.size + 1 := by omega
  have Bbl2 : w.heap.size + 1 < w2.heap.size + 1 + 1 := by omega
  have Bbl3 : w.heap.size + 1 < w2.heap.size + 1 + 1 + 1 := by omega
  have Bb0 := Bb.cell 0 _ rfl
  have Bb1 := Bb.cell 1 _ rfl
  have Bb2 := Bb.cell 2 _ rfl
  have Bb3 := Bb.cell 3 _ rfl
  have Bb4 := Bb.cell 4 _ rfl
  go_wp2_with fail
  (with_reducible refine (exp_any y B _).mono ?_)
  rintro e w3 ⟨rfl, hb⟩
  have Ba' : Box w3 (w.heap.size) #[.int .i64 (x), .int .u64 (limb 0 A), .int .u64 (limb 1 A), .int .u64 (limb 2 A), .int .u64 (limb 3 A)] := Box.call hb (by repeat (first | with_reducible assumption | with_reducible apply Box.set10 | with_reducible apply Box.set20 | with_reducible apply Box.set21 | with_reducible apply Box.set40 | with_reducible apply Box.set41 | with_reducible apply Box.set42 | with_reducible apply Box.set43 | with_reducible apply Box.set50 | with_reducible apply Box.set51 | with_reducible apply Box.set52 | with_reducible apply Box.set53 | with_reducible apply Box.set54 | with_reducible apply Box.drew | (with_reducible apply Box.newAt; (try simp only [World.size_alloc, World.size_setCell, World.size_drew]); done) | with_reducible apply Box.alloc | (with_reducible apply Box.other; case hne => ((try simp only [World.size_alloc, World.size_setCell, World.size_drew]); omega))))
  have Bb' : Box w3 (w.heap.size + 1) #[.int .i64 (y), .int .u64 (limb 0 B), .int .u64 (limb 1 B), .int .u64 (limb 2 B), .int .u64 (limb 3 B)] := Box.call hb (by repeat (first | with_reducible assumption | with_reducible apply Box.set10 | with_reducible apply Box.set20 | with_reducible apply Box.set21 | with_reducible apply Box.set40 | with_reducible apply Box.set41 | with_reducible apply Box.set42 | with_reducible apply Box.set43 | with_reducible apply Box.set50 | with_reducible apply Box.set51 | with_reducible apply Box.set52 | with_reducible apply Box.set53 | with_reducible apply Box.set54 | with_reducible apply Box.drew | (with_reducible apply Box.newAt; (try simp only [World.size_alloc, World.size_setCell, World.size_drew]); done) | with_reducible apply Box.alloc | (with_reducible apply Box.other; case hne => ((try simp only [World.size_alloc, World.size_setCell, World.size_drew]); omega))))
  have hk' : Kept w.heap.size w w3 := Kept.step (by repeat (first | with_reducible exact hk | with_reducible exact Kept.refl _ | with_reducible refine Kept.alloc ?_ _ | with_reducible refine Kept.drew ?_ | with_reducible refine Kept.setCell ?_ (by simp only [World.size_alloc, World.size_setCell, World.size_drew]; omega) _)) hb
  clear hk hb
  clear Ba Bal1 Bal2 Bal3 Baf Ba0 Ba1 Ba2 Ba3 Ba4
  clear Bb Bbl1 Bbl2 Bbl3 Bbf Bb0 Bb1 Bb2 Bb3 Bb4
  have Ba := Ba'
  clear Ba'
  have Bb := Bb'
  clear Bb'
  have hk := hk'
  clear hk'
  have hz_w3 := hk.size
  have Bal := Ba.lt
  have Baf := Ba.free
  have Bal1 : w.heap.size < w3.heap.size + 1 := by omega
  have Bal2 : w.heap.size < w3.heap.size + 1 + 1 := by omega
  have Bal3 : w.heap.size < w3.heap.size + 1 + 1 + 1 := by omega
  have Ba0 := Ba.cell 0 _ rfl
  have Ba1 := Ba.cell 1 _ rfl
  have Ba2 := Ba.cell 2 _ rfl
  have Ba3 := Ba.cell 3 _ rfl
  have Ba4 := Ba.cell 4 _ rfl
  have Bbl := Bb.lt
  have Bbf := Bb.free
  have Bbl1 : w.heap.size + 1 < w3.heap.size + 1 := by omega
  have Bbl2 : w.heap.size + 1 < w3.heap.size + 1 + 1 := by omega
  have Bbl3 : w.heap.size + 1 < w3.heap.size + 1 + 1 + 1 := by omega
  have Bb0 := Bb.cell 0 _ rfl
  have Bb1 := Bb.cell 1 _ rfl
  have Bb2 := Bb.cell 2 _ rfl
  have Bb3 := Bb.cell 3 _ rfl
  have Bb4 := Bb.cell 4 _ rfl
  go_wp2
  all_goals go_ret
  all_goals exact ⟨ret_int (by first | (rw [← HL.out]; done) | (rw [← HL.out]; unfold maxI; split <;> omega)), (by refine Kept.below ?_; repeat (first | with_reducible exact hk | with_reducible exact Kept.refl _ | with_reducible refine Kept.alloc ?_ _ | with_reducible refine Kept.drew ?_ | with_reducible refine Kept.setCell ?_ (by simp only [World.size_alloc, World.size_setCell, World.size_drew]; omega) _))⟩
set_option maxRecDepth 100000 in
set_option maxHeartbeats 8000000 in
theorem level_a {x y : Int} {A B : Nat} (hA : W256 A) (hB : W256 B) (hA0 : ¬ A = 0) (hB0 : B = 0) (w : World) :
    Calls Try.prog 80 #[termV x A, termV y B] w fun e w' => e = .returned (.int .i64 (levelI (expI x) A (expI y) B)) ∧ Below w.heap.size w w' := by
  have hk := Kept.refl w
  have zA : zeroB A = false := decide_eq_false hA0
  have zB : zeroB B = true := decide_eq_true hB0
  have HL := Lib.hid (show expI x = levelI (expI x) A (expI y) B by rw [level_dec]; simp [hA0, hB0])
  clear hA0 hB0
  go_enter Try.func80, Try.ntmps80
  go_wp2_with fail
  (with_reducible refine (ZeroW_at (IsWide.of hA) _).mono ?_)
  rintro e w1 ⟨rfl, hb⟩
  have Ba' : Box w1 (w.heap.size) #[.int .i64 (x), .int .u64 (limb 0 A), .int .u64 (limb 1 A), .int .u64 (limb 2 A), .int .u64 (limb 3 A)] := Box.call hb (by repeat (first | with_reducible assumption | with_reducible apply Box.set10 | with_reducible apply Box.set20 | with_reducible apply Box.set21 | with_reducible apply Box.set40 | with_reducible apply Box.set41 | with_reducible apply Box.set42 | with_reducible apply Box.set43 | with_reducible apply Box.set50 | with_reducible apply Box.set51 | with_reducible apply Box.set52 | with_reducible apply Box.set53 | with_reducible apply Box.set54 | with_reducible apply Box.drew | (with_reducible apply Box.newAt; (try simp only [World.size_alloc, World.size_setCell, World.size_drew]); done) | with_reducible apply Box.alloc | (with_reducible apply Box.other; case hne => ((try simp only [World.size_alloc, World.size_setCell, World.size_drew]); omega))))
  have Bb' : Box w1 (w.heap.size + 1) #[.int .i64 (y), .int .u64 (limb 0 B), .int .u64 (limb 1 B), .int .u64 (limb 2 B), .int .u64 (limb 3 B)] := Box.call hb (by repeat (first | with_reducible assumption | with_reducible apply Box.set10 | with_reducible apply Box.set20 | with_reducible apply Box.set21 | with_reducible apply Box.set40 | with_reducible apply Box.set41 | with_reducible apply Box.set42 | with_reducible apply Box.set43 | with_reducible apply Box.set50 | with_reducible apply Box.set51 | with_reducible apply Box.set52 | with_reducible apply Box.set53 | with_reducible apply Box.set54 | with_reducible apply Box.drew | (with_reducible apply Box.newAt; (try simp only [World.size_alloc, World.size_setCell, World.size_drew]); done) | with_reducible apply Box.alloc | (with_reducible apply Box.other; case hne => ((try simp only [World.size_alloc, World.size_setCell, World.size_drew]); omega))))
  have hk' : Kept w.heap.size w w1 := Kept.step (by repeat (first | with_reducible exact hk | with_reducible exact Kept.refl _ | with_reducible refine Kept.alloc ?_ _ | with_reducible refine Kept.drew ?_ | with_reducible refine Kept.setCell ?_ (by simp only [World.size_alloc, World.size_setCell, World.size_drew]; omega) _)) hb
  clear hk hb
  have Ba := Ba'
  clear Ba'
  have Bb := Bb'
  clear Bb'
  have hk := hk'
  clear hk'
  have hz_w1 := hk.size
  have Bal := Ba.lt
  have Baf := Ba.free
  have Bal1 : w.heap.size < w1.heap.size + 1 := by omega
  have Bal2 : w.heap.size < w1.heap.size + 1 + 1 := by omega
  have Bal3 : w.heap.size < w1.heap.size + 1 + 1 + 1 := by omega
  have Ba0 := Ba.cell 0 _ rfl
  have Ba1 := Ba.cell 1 _ rfl
  have Ba2 := Ba.cell 2 _ rfl
  have Ba3 := Ba.cell 3 _ rfl
  have Ba4 := Ba.cell 4 _ rfl
  have Bbl := Bb.lt
  have Bbf := Bb.free
  have Bbl1 : w.heap.size + 1 < w1.heap.size + 1 := by omega
  have Bbl2 : w.heap.size + 1 < w1.heap.size + 1 + 1 := by omega
  have Bbl3 : w.heap.size + 1 < w1.heap.size + 1 + 1 + 1 := by omega
  have Bb0 := Bb.cell 0 _ rfl
  have Bb1 := Bb.cell 1 _ rfl
  have Bb2 := Bb.cell 2 _ rfl
  have Bb3 := Bb.cell 3 _ rfl
  have Bb4 := Bb.cell 4 _ rfl
  go_wp2_with fail
  (with_reducible refine (ZeroW_at (IsWide.of hB) _).mono ?_)
  rintro e w2 ⟨rfl, hb⟩
  have Ba' : Box w2 (w.heap.size) #[.int .i64 (x), .int .u64 (limb 0 A), .int .u64 (limb 1 A), .int .u64 (limb 2 A), .int .u64 (limb 3 A)] := Box.call hb (by repeat (first | with_reducible assumption | with_reducible apply Box.set10 | with_reducible apply Box.set20 | with_reducible apply Box.set21 | with_reducible apply Box.set40 | with_reducible apply Box.set41 | with_reducible apply Box.set42 | with_reducible apply Box.set43 | with_reducible apply Box.set50 | with_reducible apply Box.set51 | with_reducible apply Box.set52 | with_reducible apply Box.set53 | with_reducible apply Box.set54 | with_reducible apply Box.drew | (with_reducible apply Box.newAt; (try simp only [World.size_alloc, World.size_setCell, World.size_drew]); done) | with_reducible apply Box.alloc | (with_reducible apply Box.other; case hne => ((try simp only [World.size_alloc, World.size_setCell, World.size_drew]); omega))))
  have Bb' : Box w2 (w.heap.size + 1) #[.int .i64 (y), .int .u64 (limb 0 B), .int .u64 (limb 1 B), .int .u64 (limb 2 B), .int .u64 (limb 3 B)] := Box.call hb (by repeat (first | with_reducible assumption | with_reducible apply Box.set10 | with_reducible apply Box.set20 | with_reducible apply Box.set21 | with_reducible apply Box.set40 | with_reducible apply Box.set41 | with_reducible apply Box.set42 | with_reducible apply Box.set43 | with_reducible apply Box.set50 | with_reducible apply Box.set51 | with_reducible apply Box.set52 | with_reducible apply Box.set53 | with_reducible apply Box.set54 | with_reducible apply Box.drew | (with_reducible apply Box.newAt; (try simp only [World.size_alloc, World.size_setCell, World.size_drew]); done) | with_reducible apply Box.alloc | (with_reducible apply Box.other; case hne => ((try simp only [World.size_alloc, World.size_setCell, World.size_drew]); omega))))
  have hk' : Kept w.heap.size w w2 := Kept.step (by repeat (first | with_reducible exact hk | with_reducible exact Kept.refl _ | with_reducible refine Kept.alloc ?_ _ | with_reducible refine Kept.drew ?_ | with_reducible refine Kept.setCell ?_ (by simp only [World.size_alloc, World.size_setCell, World.size_drew]; omega) _)) hb
  clear hk hb
  clear Ba Bal1 Bal2 Bal3 Baf Ba0 Ba1 Ba2 Ba3 Ba4
  clear Bb Bbl1 Bbl2 Bbl3 Bbf Bb0 Bb1 Bb2 Bb3 Bb4
  have Ba := Ba'
  clear Ba'
  have Bb := Bb'
  clear Bb'
  have hk := hk'
  clear hk'
  have hz_w2 := hk.size
  have Bal := Ba.lt
  have Baf := Ba.free
  have Bal1 : w.heap.size < w2.heap.size + 1 := by omega
  have Bal2 : w.heap.size < w2.heap.size + 1 + 1 := by omega
  have Bal3 : w.heap.size < w2.heap.size + 1 + 1 + 1 := by omega
  have Ba0 := Ba.cell 0 _ rfl
  have Ba1 := Ba.cell 1 _ rfl
  have Ba2 := Ba.cell 2 _ rfl
  have Ba3 := Ba.cell 3 _ rfl
  have Ba4 := Ba.cell 4 _ rfl
  have Bbl := Bb.lt
  have Bbf := Bb.free
  have Bbl1 : w.heap.size + 1 < w2.heap.size + 1 := by omega
  have Bbl2 : w.heap.size + 1 < w2.heap.size + 1 + 1 := by omega
  have Bbl3 : w.heap.size + 1 < w2.heap.size + 1 + 1 + 1 := by omega
  have Bb0 := Bb.cell 0 _ rfl
  have Bb1 := Bb.cell 1 _ rfl
  have Bb2 := Bb.cell 2 _ rfl
  have Bb3 := Bb.cell 3 _ rfl
  have Bb4 := Bb.cell 4 _ rfl
  go_wp2_with fail
  (with_reducible refine (ZeroW_at (IsWide.of hA) _).mono ?_)
  rintro e w3 ⟨rfl, hb⟩
  have Ba' : Box w3 (w.heap.size) #[.int .i64 (x), .int .u64 (limb 0 A), .int .u64 (limb 1 A), .int .u64 (limb 2 A), .int .u64 (limb 3 A)] := Box.call hb (by repeat (first | with_reducible assumption | with_reducible apply Box.set10 | with_reducible apply Box.set20 | with_reducible apply Box.set21 | with_reducible apply Box.set40 | with_reducible apply Box.set41 | with_reducible apply Box.set42 | with_reducible apply Box.set43 | with_reducible apply Box.set50 | with_reducible apply Box.set51 | with_reducible apply Box.set52 | with_reducible apply Box.set53 | with_reducible apply Box.set54 | with_reducible apply Box.drew | (with_reducible apply Box.newAt; (try simp only [World.size_alloc, World.size_setCell, World.size_drew]); done) | with_reducible apply Box.alloc | (with_reducible apply Box.other; case hne => ((try simp only [World.size_alloc, World.size_setCell, World.size_drew]); omega))))
  have Bb' : Box w3 (w.heap.size + 1) #[.int .i64 (y), .int .u64 (limb 0 B), .int .u64 (limb 1 B), .int .u64 (limb 2 B), .int .u64 (limb 3 B)] := Box.call hb (by repeat (first | with_reducible assumption | with_reducible apply Box.set10 | with_reducible apply Box.set20 | with_reducible apply Box.set21 | with_reducible apply Box.set40 | with_reducible apply Box.set41 | with_reducible apply Box.set42 | with_reducible apply Box.set43 | with_reducible apply Box.set50 | with_reducible apply Box.set51 | with_reducible apply Box.set52 | with_reducible apply Box.set53 | with_reducible apply Box.set54 | with_reducible apply Box.drew | (with_reducible apply Box.newAt; (try simp only [World.size_alloc, World.size_setCell, World.size_drew]); done) | with_reducible apply Box.alloc | (with_reducible apply Box.other; case hne => ((try simp only [World.size_alloc, World.size_setCell, World.size_drew]); omega))))
  have hk' : Kept w.heap.size w w3 := Kept.step (by repeat (first | with_reducible exact hk | with_reducible exact Kept.refl _ | with_reducible refine Kept.alloc ?_ _ | with_reducible refine Kept.drew ?_ | with_reducible refine Kept.setCell ?_ (by simp only [World.size_alloc, World.size_setCell, World.size_drew]; omega) _)) hb
  clear hk hb
  clear Ba Bal1 Bal2 Bal3 Baf Ba0 Ba1 Ba2 Ba3 Ba4
  clear Bb Bbl1 Bbl2 Bbl3 Bbf Bb0 Bb1 Bb2 Bb3 Bb4
  have Ba := Ba'
  clear Ba'
  have Bb := Bb'
  clear Bb'
  have hk := hk'
  clear hk'
  have hz_w3 := hk.size
  have Bal := Ba.lt
  have Baf := Ba.free
  have Bal1 : w.heap.size < w3.heap.size + 1 := by omega
  have Bal2 : w.heap.size < w3.heap.size + 1 + 1 := by omega
  have Bal3 : w.heap.size < w3.heap.size + 1 + 1 + 1 := by omega
  have Ba0 := Ba.cell 0 _ rfl
  have Ba1 := Ba.cell 1 _ rfl
  have Ba2 := Ba.cell 2 _ rfl
  have Ba3 := Ba.cell 3 _ rfl
  have Ba4 := Ba.cell 4 _ rfl
  have Bbl := Bb.lt
  have Bbf := Bb.free
  have Bbl1 : w.heap.size + 1 < w3.heap.size + 1 := by omega
  have Bbl2 : w.heap.size + 1 < w3.heap.size + 1 + 1 := by omega
  have Bbl3 : w.heap.size + 1 < w3.heap.size + 1 + 1 + 1 := by omega
  have Bb0 := Bb.cell 0 _ rfl
  have Bb1 := Bb.cell 1 _ rfl
  have Bb2 := Bb.cell 2 _ rfl
  have Bb3 := Bb.cell 3 _ rfl
  have Bb4 := Bb.cell 4 _ rfl
  go_wp2_with fail
  (with_reducible refine (exp_any x A _).mono ?_)
  rintro e w4 ⟨rfl, hb⟩
  have Ba' : Box w4 (w.heap.size) #[.int .i64 (x), .int .u64 (limb 0 A), .int .u64 (limb 1 A), .int .u64 (limb 2 A), .int .u64 (limb 3 A)] := Box.call hb (by repeat (first | with_reducible assumption | with_reducible apply Box.set10 | with_reducible apply Box.set20 | with_reducible apply Box.set21 | with_reducible apply Box.set40 | with_reducible apply Box.set41 | with_reducible apply Box.set42 | with_reducible apply Box.set43 | with_reducible apply Box.set50 | with_reducible apply Box.set51 | with_reducible apply Box.set52 | with_reducible apply Box.set53 | with_reducible apply Box.set54 | with_reducible apply Box.drew | (with_reducible apply Box.newAt; (try simp only [World.size_alloc, World.size_setCell, World.size_drew]); done) | with_reducible apply Box.alloc | (with_reducible apply Box.other; case hne => ((try simp only [World.size_alloc, World.size_setCell, World.size_drew]); omega))))
  have Bb' : Box w4 (w.heap.size + 1) #[.int .i64 (y), .int .u64 (limb 0 B), .int .u64 (limb 1 B), .int .u64 (limb 2 B), .int .u64 (limb 3 B)] := Box.call hb (by repeat (first | with_reducible assumption | with_reducible apply Box.set10 | with_reducible apply Box.set20 | with_reducible apply Box.set21 | with_reducible apply Box.set40 | with_reducible apply Box.set41 | with_reducible apply Box.set42 | with_reducible apply Box.set43 | with_reducible apply Box.set50 | with_reducible apply Box.set51 | with_reducible apply Box.set52 | with_reducible apply Box.set53 | with_reducible apply Box.set54 | with_reducible apply Box.drew | (with_reducible apply Box.newAt; (try simp only [World.size_alloc, World.size_setCell, World.size_drew]); done) | with_reducible apply Box.alloc | (with_reducible apply Box.other; case hne => ((try simp only [World.size_alloc, World.size_setCell, World.size_drew]); omega))))
  have hk' : Kept w.heap.size w w4 := Kept.step (by repeat (first | with_reducible exact hk | with_reducible exact Kept.refl _ | with_reducible refine Kept.alloc ?_ _ | with_reducible refine Kept.drew ?_ | with_reducible refine Kept.setCell ?_ (by simp only [World.size_alloc, World.size_setCell, World.size_drew]; omega) _)) hb
  clear hk hb
  clear Ba Bal1 Bal2 Bal3 Baf Ba0 Ba1 Ba2 Ba3 Ba4
  clear Bb Bbl1 Bbl2 Bbl3 Bbf Bb0 Bb1 Bb2 Bb3 Bb4
  have Ba := Ba'
  clear Ba'
  have Bb := Bb'
  clear Bb'
  have hk := hk'
  clear hk'
  have hz_w4 := hk.size
  have Bal := Ba.lt
  have Baf := Ba.free
  have Bal1 : w.heap.size < w4.heap.size + 1 := by omega
  have Bal2 : w.heap.size < w4.heap.size + 1 + 1 := by omega
  have Bal3 : w.heap.size < w4.heap.size + 1 + 1 + 1 := by omega
  have Ba0 := Ba.cell 0 _ rfl
  have Ba1 := Ba.cell 1 _ rfl
  have Ba2 := Ba.cell 2 _ rfl
  have Ba3 := Ba.cell 3 _ rfl
  have Ba4 := Ba.cell 4 _ rfl
  have Bbl := Bb.lt
  have Bbf := Bb.free
  have Bbl1 : w.heap.size + 1 < w4.heap.size + 1 := by omega
  have Bbl2 : w.heap.size + 1 < w4.heap.size + 1 + 1 := by omega
  have Bbl3 : w.heap.size + 1 < w4.heap.size + 1 + 1 + 1 := by omega
  have Bb0 := Bb.cell 0 _ rfl
  have Bb1 := Bb.cell 1 _ rfl
  have Bb2 := Bb.cell 2 _ rfl
  have Bb3 := Bb.cell 3 _ rfl
  have Bb4 := Bb.cell 4 _ rfl
  go_wp2
  all_goals go_ret
  all_goals exact ⟨ret_int (by first | (rw [← HL.out]; done) | (rw [← HL.out]; unfold maxI; split <;> omega)), (by refine Kept.below ?_; repeat (first | with_reducible exact hk | with_reducible exact Kept.refl _ | with_reducible refine Kept.alloc ?_ _ | with_reducible refine Kept.drew ?_ | with_reducible refine Kept.setCell ?_ (by simp only [World.size_alloc, World.size_setCell, World.size_drew]; omega) _))⟩
set_option maxRecDepth 100000 in
set_option maxHeartbeats 8000000 in
theorem level_00 {x y : Int} {A B : Nat} (hA : W256 A) (hB : W256 B) (hA0 : A = 0) (hB0 : B = 0) (w : World) :
    Calls Try.prog 80 #[termV x A, termV y B] w fun e w' => e = .returned (.int .i64 (levelI (expI x) A (expI y) B)) ∧ Below w.heap.size w w' := by
  have hk := Kept.refl w
  have zA : zeroB A = true := decide_eq_true hA0
  have zB : zeroB B = true := decide_eq_true hB0
  have HL := Lib.hid (show maxI (expI x) (expI y) = levelI (expI x) A (expI y) B by rw [level_dec]; simp [hA0, hB0])
  clear hA0 hB0
  go_enter Try.func80, Try.ntmps80
  go_wp2_with fail
  (with_reducible refine (ZeroW_at (IsWide.of hA) _).mono ?_)
  rintro e w1 ⟨rfl, hb⟩
  have Ba' : Box w1 (w.heap.size) #[.int .i64 (x), .int .u64 (limb 0 A), .int .u64 (limb 1 A), .int .u64 (limb 2 A), .int .u64 (limb 3 A)] := Box.call hb (by repeat (first | with_reducible assumption | with_reducible apply Box.set10 | with_reducible apply Box.set20 | with_reducible apply Box.set21 | with_reducible apply Box.set40 | with_reducible apply Box.set41 | with_reducible apply Box.set42 | with_reducible apply Box.set43 | with_reducible apply Box.set50 | with_reducible apply Box.set51 | with_reducible apply Box.set52 | with_reducible apply Box.set53 | with_reducible apply Box.set54 | with_reducible apply Box.drew | (with_reducible apply Box.newAt; (try simp only [World.size_alloc, World.size_setCell, World.size_drew]); done) | with_reducible apply Box.alloc | (with_reducible apply Box.other; case hne => ((try simp only [World.size_alloc, World.size_setCell, World.size_drew]); omega))))
  have Bb' : Box w1 (w.heap.size + 1) #[.int .i64 (y), .int .u64 (limb 0 B), .int .u64 (limb 1 B), .int .u64 (limb 2 B), .int .u64 (limb 3 B)] := Box.call hb (by repeat (first | with_reducible assumption | with_reducible apply Box.set10 | with_reducible apply Box.set20 | with_reducible apply Box.set21 | with_reducible apply Box.set40 | with_reducible apply Box.set41 | with_reducible apply Box.set42 | with_reducible apply Box.set43 | with_reducible apply Box.set50 | with_reducible apply Box.set51 | with_reducible apply Box.set52 | with_reducible apply Box.set53 | with_reducible apply Box.set54 | with_reducible apply Box.drew | (with_reducible apply Box.newAt; (try simp only [World.size_alloc, World.size_setCell, World.size_drew]); done) | with_reducible apply Box.alloc | (with_reducible apply Box.other; case hne => ((try simp only [World.size_alloc, World.size_setCell, World.size_drew]); omega))))
  have hk' : Kept w.heap.size w w1 := Kept.step (by repeat (first | with_reducible exact hk | with_reducible exact Kept.refl _ | with_reducible refine Kept.alloc ?_ _ | with_reducible refine Kept.drew ?_ | with_reducible refine Kept.setCell ?_ (by simp only [World.size_alloc, World.size_setCell, World.size_drew]; omega) _)) hb
  clear hk hb
  have Ba := Ba'
  clear Ba'
  have Bb := Bb'
  clear Bb'
  have hk := hk'
  clear hk'
  have hz_w1 := hk.size
  have Bal := Ba.lt
  have Baf := Ba.free
  have Bal1 : w.heap.size < w1.heap.size + 1 := by omega
  have Bal2 : w.heap.size < w1.heap.size + 1 + 1 := by omega
  have Bal3 : w.heap.size < w1.heap.size + 1 + 1 + 1 := by omega
  have Ba0 := Ba.cell 0 _ rfl
  have Ba1 := Ba.cell 1 _ rfl
  have Ba2 := Ba.cell 2 _ rfl
  have Ba3 := Ba.cell 3 _ rfl
  have Ba4 := Ba.cell 4 _ rfl
  have Bbl := Bb.lt
  have Bbf := Bb.free
  have Bbl1 : w.heap.size + 1 < w1.heap.size + 1 := by omega
  have Bbl2 : w.heap.size + 1 < w1.heap.size + 1 + 1 := by omega
  have Bbl3 : w.heap.size + 1 < w1.heap.size + 1 + 1 + 1 := by omega
  have Bb0 := Bb.cell 0 _ rfl
  have Bb1 := Bb.cell 1 _ rfl
  have Bb2 := Bb.cell 2 _ rfl
  have Bb3 := Bb.cell 3 _ rfl
  have Bb4 := Bb.cell 4 _ rfl
  go_wp2_with fail
  (with_reducible refine (ZeroW_at (IsWide.of hB) _).mono ?_)
  rintro e w2 ⟨rfl, hb⟩
  have Ba' : Box w2 (w.heap.size) #[.int .i64 (x), .int .u64 (limb 0 A), .int .u64 (limb 1 A), .int .u64 (limb 2 A), .int .u64 (limb 3 A)] := Box.call hb (by repeat (first | with_reducible assumption | with_reducible apply Box.set10 | with_reducible apply Box.set20 | with_reducible apply Box.set21 | with_reducible apply Box.set40 | with_reducible apply Box.set41 | with_reducible apply Box.set42 | with_reducible apply Box.set43 | with_reducible apply Box.set50 | with_reducible apply Box.set51 | with_reducible apply Box.set52 | with_reducible apply Box.set53 | with_reducible apply Box.set54 | with_reducible apply Box.drew | (with_reducible apply Box.newAt; (try simp only [World.size_alloc, World.size_setCell, World.size_drew]); done) | with_reducible apply Box.alloc | (with_reducible apply Box.other; case hne => ((try simp only [World.size_alloc, World.size_setCell, World.size_drew]); omega))))
  have Bb' : Box w2 (w.heap.size + 1) #[.int .i64 (y), .int .u64 (limb 0 B), .int .u64 (limb 1 B), .int .u64 (limb 2 B), .int .u64 (limb 3 B)] := Box.call hb (by repeat (first | with_reducible assumption | with_reducible apply Box.set10 | with_reducible apply Box.set20 | with_reducible apply Box.set21 | with_reducible apply Box.set40 | with_reducible apply Box.set41 | with_reducible apply Box.set42 | with_reducible apply Box.set43 | with_reducible apply Box.set50 | with_reducible apply Box.set51 | with_reducible apply Box.set52 | with_reducible apply Box.set53 | with_reducible apply Box.set54 | with_reducible apply Box.drew | (with_reducible apply Box.newAt; (try simp only [World.size_alloc, World.size_setCell, World.size_drew]); done) | with_reducible apply Box.alloc | (with_reducible apply Box.other; case hne => ((try simp only [World.size_alloc, World.size_setCell, World.size_drew]); omega))))
  have hk' : Kept w.heap.size w w2 := Kept.step (by repeat (first | with_reducible exact hk | with_reducible exact Kept.refl _ | with_reducible refine Kept.alloc ?_ _ | with_reducible refine Kept.drew ?_ | with_reducible refine Kept.setCell ?_ (by simp only [World.size_alloc, World.size_setCell, World.size_drew]; omega) _)) hb
  clear hk hb
  clear Ba Bal1 Bal2 Bal3 Baf Ba0 Ba1 Ba2 Ba3 Ba4
  clear Bb Bbl1 Bbl2 Bbl3 Bbf Bb0 Bb1 Bb2 Bb3 Bb4
  have Ba := Ba'
  clear Ba'
  have Bb := Bb'
  clear Bb'
  have hk := hk'
  clear hk'
  have hz_w2 := hk.size
  have Bal := Ba.lt
  have Baf := Ba.free
  have Bal1 : w.heap.size < w2.heap.size + 1 := by omega
  have Bal2 : w.heap.size < w2.heap.size + 1 + 1 := by omega
  have Bal3 : w.heap.size < w2.heap.size + 1 + 1 + 1 := by omega
  have Ba0 := Ba.cell 0 _ rfl
  have Ba1 := Ba.cell 1 _ rfl
  have Ba2 := Ba.cell 2 _ rfl
  have Ba3 := Ba.cell 3 _ rfl
  have Ba4 := Ba.cell 4 _ rfl
  have Bbl := Bb.lt
  have Bbf := Bb.free
  have Bbl1 : w.heap.size + 1 < w2.heap.size + 1 := by omega
  have Bbl2 : w.heap.size + 1 < w2.heap.size + 1 + 1 := by omega
  have Bbl3 : w.heap.size + 1 < w2.heap.size + 1 + 1 + 1 := by omega
  have Bb0 := Bb.cell 0 _ rfl
  have Bb1 := Bb.cell 1 _ rfl
  have Bb2 := Bb.cell 2 _ rfl
  have Bb3 := Bb.cell 3 _ rfl
  have Bb4 := Bb.cell 4 _ rfl
  go_wp2_with fail
  (with_reducible refine (ZeroW_at (IsWide.of hB) _).mono ?_)
  rintro e w3 ⟨rfl, hb⟩
  have Ba' : Box w3 (w.heap.size) #[.int .i64 (x), .int .u64 (limb 0 A), .int .u64 (limb 1 A), .int .u64 (limb 2 A), .int .u64 (limb 3 A)] := Box.call hb (by repeat (first | with_reducible assumption | with_reducible apply Box.set10 | with_reducible apply Box.set20 | with_reducible apply Box.set21 | with_reducible apply Box.set40 | with_reducible apply Box.set41 | with_reducible apply Box.set42 | with_reducible apply Box.set43 | with_reducible apply Box.set50 | with_reducible apply Box.set51 | with_reducible apply Box.set52 | with_reducible apply Box.set53 | with_reducible apply Box.set54 | with_reducible apply Box.drew | (with_reducible apply Box.newAt; (try simp only [World.size_alloc, World.size_setCell, World.size_drew]); done) | with_reducible apply Box.alloc | (with_reducible apply Box.other; case hne => ((try simp only [World.size_alloc, World.size_setCell, World.size_drew]); omega))))
  have Bb' : Box w3 (w.heap.size + 1) #[.int .i64 (y), .int .u64 (limb 0 B), .int .u64 (limb 1 B), .int .u64 (limb 2 B), .int .u64 (limb 3 B)] := Box.call hb (by repeat (first | with_reducible assumption | with_reducible apply Box.set10 | with_reducible apply Box.set20 | with_reducible apply Box.set21 | with_reducible apply Box.set40 | with_reducible apply Box.set41 | with_reducible apply Box.set42 | with_reducible apply Box.set43 | with_reducible apply Box.set50 | with_reducible apply Box.set51 | with_reducible apply Box.set52 | with_reducible apply Box.set53 | with_reducible apply Box.set54 | with_reducible apply Box.drew | (with_reducible apply Box.newAt; (try simp only [World.size_alloc, World.size_setCell, World.size_drew]); done) | with_reducible apply Box.alloc | (with_reducible apply Box.other; case hne => ((try simp only [World.size_alloc, World.size_setCell, World.size_drew]); omega))))
  have hk' : Kept w.heap.size w w3 := Kept.step (by repeat (first | with_reducible exact hk | with_reducible exact Kept.refl _ | with_reducible refine Kept.alloc ?_ _ | with_reducible refine Kept.drew ?_ | with_reducible refine Kept.setCell ?_ (by simp only [World.size_alloc, World.size_setCell, World.size_drew]; omega) _)) hb
  clear hk hb
  clear Ba Bal1 Bal2 Bal3 Baf Ba0 Ba1 Ba2 Ba3 Ba4
  clear Bb Bbl1 Bbl2 Bbl3 Bbf Bb0 Bb1 Bb2 Bb3 Bb4
  have Ba := Ba'
  clear Ba'
  have Bb := Bb'
  clear Bb'
  have hk := hk'
  clear hk'
  have hz_w3 := hk.size
  have Bal := Ba.lt
  have Baf := Ba.free
  have Bal1 : w.heap.size < w3.heap.size + 1 := by omega
  have Bal2 : w.heap.size < w3.heap.size + 1 + 1 := by omega
  have Bal3 : w.heap.size < w3.heap.size + 1 + 1 + 1 := by omega
  have Ba0 := Ba.cell 0 _ rfl
  have Ba1 := Ba.cell 1 _ rfl
  have Ba2 := Ba.cell 2 _ rfl
  have Ba3 := Ba.cell 3 _ rfl
  have Ba4 := Ba.cell 4 _ rfl
  have Bbl := Bb.lt
  have Bbf := Bb.free
  have Bbl1 : w.heap.size + 1 < w3.heap.size + 1 := by omega
  have Bbl2 : w.heap.size + 1 < w3.heap.size + 1 + 1 := by omega
  have Bbl3 : w.heap.size + 1 < w3.heap.size + 1 + 1 + 1 := by omega
  have Bb0 := Bb.cell 0 _ rfl
  have Bb1 := Bb.cell 1 _ rfl
  have Bb2 := Bb.cell 2 _ rfl
  have Bb3 := Bb.cell 3 _ rfl
  have Bb4 := Bb.cell 4 _ rfl
  go_wp2_with fail
  (with_reducible refine (ZeroW_at (IsWide.of hA) _).mono ?_)
  rintro e w4 ⟨rfl, hb⟩
  have Ba' : Box w4 (w.heap.size) #[.int .i64 (x), .int .u64 (limb 0 A), .int .u64 (limb 1 A), .int .u64 (limb 2 A), .int .u64 (limb 3 A)] := Box.call hb (by repeat (first | with_reducible assumption | with_reducible apply Box.set10 | with_reducible apply Box.set20 | with_reducible apply Box.set21 | with_reducible apply Box.set40 | with_reducible apply Box.set41 | with_reducible apply Box.set42 | with_reducible apply Box.set43 | with_reducible apply Box.set50 | with_reducible apply Box.set51 | with_reducible apply Box.set52 | with_reducible apply Box.set53 | with_reducible apply Box.set54 | with_reducible apply Box.drew | (with_reducible apply Box.newAt; (try simp only [World.size_alloc, World.size_setCell, World.size_drew]); done) | with_reducible apply Box.alloc | (with_reducible apply Box.other; case hne => ((try simp only [World.size_alloc, World.size_setCell, World.size_drew]); omega))))
  have Bb' : Box w4 (w.heap.size + 1) #[.int .i64 (y), .int .u64 (limb 0 B), .int .u64 (limb 1 B), .int .u64 (limb 2 B), .int .u64 (limb 3 B)] := Box.call hb (by repeat (first | with_reducible assumption | with_reducible apply Box.set10 | with_reducible apply Box.set20 | with_reducible apply Box.set21 | with_reducible apply Box.set40 | with_reducible apply Box.set41 | with_reducible apply Box.set42 | with_reducible apply Box.set43 | with_reducible apply Box.set50 | with_reducible apply Box.set51 | with_reducible apply Box.set52 | with_reducible apply Box.set53 | with_reducible apply Box.set54 | with_reducible apply Box.drew | (with_reducible apply Box.newAt; (try simp only [World.size_alloc, World.size_setCell, World.size_drew]); done) | with_reducible apply Box.alloc | (with_reducible apply Box.other; case hne => ((try simp only [World.size_alloc, World.size_setCell, World.size_drew]); omega))))
  have hk' : Kept w.heap.size w w4 := Kept.step (by repeat (first | with_reducible exact hk | with_reducible exact Kept.refl _ | with_reducible refine Kept.alloc ?_ _ | with_reducible refine Kept.drew ?_ | with_reducible refine Kept.setCell ?_ (by simp only [World.size_alloc, World.size_setCell, World.size_drew]; omega) _)) hb
  clear hk hb
  clear Ba Bal1 Bal2 Bal3 Baf Ba0 Ba1 Ba2 Ba3 Ba4
  clear Bb Bbl1 Bbl2 Bbl3 Bbf Bb0 Bb1 Bb2 Bb3 Bb4
  have Ba := Ba'
  clear Ba'
  have Bb := Bb'
  clear Bb'
  have hk := hk'
  clear hk'
  have hz_w4 := hk.size
  have Bal := Ba.lt
  have Baf := Ba.free
  have Bal1 : w.heap.size < w4.heap.size + 1 := by omega
  have Bal2 : w.heap.size < w4.heap.size + 1 + 1 := by omega
  have Bal3 : w.heap.size < w4.heap.size + 1 + 1 + 1 := by omega
  have Ba0 := Ba.cell 0 _ rfl
  have Ba1 := Ba.cell 1 _ rfl
  have Ba2 := Ba.cell 2 _ rfl
  have Ba3 := Ba.cell 3 _ rfl
  have Ba4 := Ba.cell 4 _ rfl
  have Bbl := Bb.lt
  have Bbf := Bb.free
  have Bbl1 : w.heap.size + 1 < w4.heap.size + 1 := by omega
  have Bbl2 : w.heap.size + 1 < w4.heap.size + 1 + 1 := by omega
  have Bbl3 : w.heap.size + 1 < w4.heap.size + 1 + 1 + 1 := by omega
  have Bb0 := Bb.cell 0 _ rfl
  have Bb1 := Bb.cell 1 _ rfl
  have Bb2 := Bb.cell 2 _ rfl
  have Bb3 := Bb.cell 3 _ rfl
  have Bb4 := Bb.cell 4 _ rfl
  go_wp2
  refine wp_region_uni 5 (fun W' => Kept w.heap.size w W' ∧ Box W' (w.heap.size) #[.int .i64 (x), .int .u64 (limb 0 A), .int .u64 (limb 1 A), .int .u64 (limb 2 A), .int .u64 (limb 3 A)] ∧ Box W' (w.heap.size + 1) #[.int .i64 (y), .int .u64 (limb 0 B), .int .u64 (limb 1 B), .int .u64 (limb 2 B), .int .u64 (limb 3 B)]) (w.heap.size + 1 + 1) (fun _ => #[]) (by kernel_rfl) (by kernel_rfl) (fun W W' h hb => ⟨h.1.step hb, Box.call hb (h.2.1), Box.call hb (h.2.2)⟩) (fun _ h => (h.2.2).lt) (⟨(by repeat (first | with_reducible exact hk | with_reducible exact Kept.refl _ | with_reducible refine Kept.alloc ?_ _ | with_reducible refine Kept.drew ?_ | with_reducible refine Kept.setCell ?_ (by simp only [World.size_alloc, World.size_setCell, World.size_drew]; omega) _)), (by repeat (first | with_reducible assumption | with_reducible apply Box.set10 | with_reducible apply Box.set20 | with_reducible apply Box.set21 | with_reducible apply Box.set40 | with_reducible apply Box.set41 | with_reducible apply Box.set42 | with_reducible apply Box.set43 | with_reducible apply Box.set50 | with_reducible apply Box.set51 | with_reducible apply Box.set52 | with_reducible apply Box.set53 | with_reducible apply Box.set54 | with_reducible apply Box.drew | (with_reducible apply Box.newAt; (try simp only [World.size_alloc, World.size_setCell, World.size_drew]); done) | with_reducible apply Box.alloc | (with_reducible apply Box.other; case hne => ((try simp only [World.size_alloc, World.size_setCell, World.size_drew]); omega)))), (by repeat (first | with_reducible assumption | with_reducible apply Box.set10 | with_reducible apply Box.set20 | with_reducible apply Box.set21 | with_reducible apply Box.set40 | with_reducible apply Box.set41 | with_reducible apply Box.set42 | with_reducible apply Box.set43 | with_reducible apply Box.set50 | with_reducible apply Box.set51 | with_reducible apply Box.set52 | with_reducible apply Box.set53 | with_reducible apply Box.set54 | with_reducible apply Box.drew | (with_reducible apply Box.newAt; (try simp only [World.size_alloc, World.size_setCell, World.size_drew]); done) | with_reducible apply Box.alloc | (with_reducible apply Box.other; case hne => ((try simp only [World.size_alloc, World.size_setCell, World.size_drew]); omega))))⟩) ?_
  clear hk
  clear Ba Bal1 Bal2 Bal3 Baf Ba0 Ba1 Ba2 Ba3 Ba4
  clear Bb Bbl1 Bbl2 Bbl3 Bbf Bb0 Bb1 Bb2 Bb3 Bb4
  simp only [List.take_succ_cons, List.take_zero, List.drop_succ_cons, List.drop_zero]
  refine hu_val ?_ (by rfl) (by rfl) ?_ ?_
  rotate_left
  · intro w hS; have Q0 := (hS.2.1).cell; have q0_0 := Q0 0 _ rfl; have q0_1 := Q0 1 _ rfl; have q0_2 := Q0 2 _ rfl; have q0_3 := Q0 3 _ rfl; have q0_4 := Q0 4 _ rfl; clear Q0; clear hS; go_simp; first | done | with_reducible rfl
  simp only [Act.put, List.setIfInBounds_toArray, List.set_cons_zero, List.set_cons_succ]
  refine hu_call ?_ ?_ ?_ (by rfl) (by rfl) ?_ ?_ ?_
  rotate_left 3
  · intro w hS; go_simp; first | done | with_reducible rfl | (constructor <;> with_reducible rfl)
  · intro w hS; refine (exp_any x A _).mono ?_; rintro e w' ⟨rfl, hb⟩; constructor; · with_reducible rfl
    · exact hb
  simp only [Act.put, List.setIfInBounds_toArray, List.set_cons_zero, List.set_cons_succ]
  refine hu_val ?_ (by rfl) (by rfl) ?_ ?_
  rotate_left
  · intro w hS; have Q1 := (hS.2.2).cell; have q1_0 := Q1 0 _ rfl; have q1_1 := Q1 1 _ rfl; have q1_2 := Q1 2 _ rfl; have q1_3 := Q1 3 _ rfl; have q1_4 := Q1 4 _ rfl; clear Q1; clear hS; go_simp; first | done | with_reducible rfl
  simp only [Act.put, List.setIfInBounds_toArray, List.set_cons_zero, List.set_cons_succ]
  refine hu_call ?_ ?_ ?_ (by rfl) (by rfl) ?_ ?_ ?_
  rotate_left 3
  · intro w hS; go_simp; first | done | with_reducible rfl | (constructor <;> with_reducible rfl)
  · intro w hS; refine (exp_any y B _).mono ?_; rintro e w' ⟨rfl, hb⟩; constructor; · with_reducible rfl
    · exact hb
  simp only [Act.put, List.setIfInBounds_toArray, List.set_cons_zero, List.set_cons_succ]
  refine hu_val ?_ (by rfl) (by rfl) ?_ ?_
  rotate_left
  · intro w hS; clear hS; go_simp; first | done | with_reducible rfl
  simp only [Act.put, List.setIfInBounds_toArray, List.set_cons_zero, List.set_cons_succ]
  intro w5 hS hE
  change wpList _ _ _ _ _ _
  obtain ⟨hk, Ba, Bb⟩ := hS
  clear hE
  have hz_w5 := hk.size
  have Bal := Ba.lt
  have Baf := Ba.free
  have Bal1 : w.heap.size < w5.heap.size + 1 := by omega
  have Bal2 : w.heap.size < w5.heap.size + 1 + 1 := by omega
  have Bal3 : w.heap.size < w5.heap.size + 1 + 1 + 1 := by omega
  have Ba0 := Ba.cell 0 _ rfl
  have Ba1 := Ba.cell 1 _ rfl
  have Ba2 := Ba.cell 2 _ rfl
  have Ba3 := Ba.cell 3 _ rfl
  have Ba4 := Ba.cell 4 _ rfl
  have Bbl := Bb.lt
  have Bbf := Bb.free
  have Bbl1 : w.heap.size + 1 < w5.heap.size + 1 := by omega
  have Bbl2 : w.heap.size + 1 < w5.heap.size + 1 + 1 := by omega
  have Bbl3 : w.heap.size + 1 < w5.heap.size + 1 + 1 + 1 := by omega
  have Bb0 := Bb.cell 0 _ rfl
  have Bb1 := Bb.cell 1 _ rfl
  have Bb2 := Bb.cell 2 _ rfl
  have Bb3 := Bb.cell 3 _ rfl
  have Bb4 := Bb.cell 4 _ rfl
  go_wp2
  all_goals go_ret
  all_goals exact ⟨ret_int (by first | (rw [← HL.out]; done) | (rw [← HL.out]; unfold maxI; split <;> omega)), (by refine Kept.below ?_; repeat (first | with_reducible exact hk | with_reducible exact Kept.refl _ | with_reducible refine Kept.alloc ?_ _ | with_reducible refine Kept.drew ?_ | with_reducible refine Kept.setCell ?_ (by simp only [World.size_alloc, World.size_setCell, World.size_drew]; omega) _))⟩
set_option maxRecDepth 100000 in
set_option maxHeartbeats 8000000 in
theorem level_11 {x y : Int} {A B : Nat} (hA : W256 A) (hB : W256 B) (hA0 : ¬ A = 0) (hB0 : ¬ B = 0) (w : World) :
    Calls Try.prog 80 #[termV x A, termV y B] w fun e w' => e = .returned (.int .i64 (levelI (expI x) A (expI y) B)) ∧ Below w.heap.size w w' := by
  have hk := Kept.refl w
  have zA : zeroB A = false := decide_eq_false hA0
  have zB : zeroB B = false := decide_eq_false hB0
  have HL := Lib.hid (show maxI (expI x) (expI y) = levelI (expI x) A (expI y) B by rw [level_dec]; simp [hA0, hB0])
  clear hA0 hB0
  go_enter Try.func80, Try.ntmps80
  go_wp2_with fail
  (with_reducible refine (ZeroW_at (IsWide.of hA) _).mono ?_)
  rintro e w1 ⟨rfl, hb⟩
  have Ba' : Box w1 (w.heap.size) #[.int .i64 (x), .int .u64 (limb 0 A), .int .u64 (limb 1 A), .int .u64 (limb 2 A), .int .u64 (limb 3 A)] := Box.call hb (by repeat (first | with_reducible assumption | with_reducible apply Box.set10 | with_reducible apply Box.set20 | with_reducible apply Box.set21 | with_reducible apply Box.set40 | with_reducible apply Box.set41 | with_reducible apply Box.set42 | with_reducible apply Box.set43 | with_reducible apply Box.set50 | with_reducible apply Box.set51 | with_reducible apply Box.set52 | with_reducible apply Box.set53 | with_reducible apply Box.set54 | with_reducible apply Box.drew | (with_reducible apply Box.newAt; (try simp only [World.size_alloc, World.size_setCell, World.size_drew]); done) | with_reducible apply Box.alloc | (with_reducible apply Box.other; case hne => ((try simp only [World.size_alloc, World.size_setCell, World.size_drew]); omega))))
  have Bb' : Box w1 (w.heap.size + 1) #[.int .i64 (y), .int .u64 (limb 0 B), .int .u64 (limb 1 B), .int .u64 (limb 2 B), .int .u64 (limb 3 B)] := Box.call hb (by repeat (first | with_reducible assumption | with_reducible apply Box.set10 | with_reducible apply Box.set20 | with_reducible apply Box.set21 | with_reducible apply Box.set40 | with_reducible apply Box.set41 | with_reducible apply Box.set42 | with_reducible apply Box.set43 | with_reducible apply Box.set50 | with_reducible apply Box.set51 | with_reducible apply Box.set52 | with_reducible apply Box.set53 | with_reducible apply Box.set54 | with_reducible apply Box.drew | (with_reducible apply Box.newAt; (try simp only [World.size_alloc, World.size_setCell, World.size_drew]); done) | with_reducible apply Box.alloc | (with_reducible apply Box.other; case hne => ((try simp only [World.size_alloc, World.size_setCell, World.size_drew]); omega))))
  have hk' : Kept w.heap.size w w1 := Kept.step (by repeat (first | with_reducible exact hk | with_reducible exact Kept.refl _ | with_reducible refine Kept.alloc ?_ _ | with_reducible refine Kept.drew ?_ | with_reducible refine Kept.setCell ?_ (by simp only [World.size_alloc, World.size_setCell, World.size_drew]; omega) _)) hb
  clear hk hb
  have Ba := Ba'
  clear Ba'
  have Bb := Bb'
  clear Bb'
  have hk := hk'
  clear hk'
  have hz_w1 := hk.size
  have Bal := Ba.lt
  have Baf := Ba.free
  have Bal1 : w.heap.size < w1.heap.size + 1 := by omega
  have Bal2 : w.heap.size < w1.heap.size + 1 + 1 := by omega
  have Bal3 : w.heap.size < w1.heap.size + 1 + 1 + 1 := by omega
  have Ba0 := Ba.cell 0 _ rfl
  have Ba1 := Ba.cell 1 _ rfl
  have Ba2 := Ba.cell 2 _ rfl
  have Ba3 := Ba.cell 3 _ rfl
  have Ba4 := Ba.cell 4 _ rfl
  have Bbl := Bb.lt
  have Bbf := Bb.free
  have Bbl1 : w.heap.size + 1 < w1.heap.size + 1 := by omega
  have Bbl2 : w.heap.size + 1 < w1.heap.size + 1 + 1 := by omega
  have Bbl3 : w.heap.size + 1 < w1.heap.size + 1 + 1 + 1 := by omega
  have Bb0 := Bb.cell 0 _ rfl
  have Bb1 := Bb.cell 1 _ rfl
  have Bb2 := Bb.cell 2 _ rfl
  have Bb3 := Bb.cell 3 _ rfl
  have Bb4 := Bb.cell 4 _ rfl
  go_wp2_with fail
  (with_reducible refine (ZeroW_at (IsWide.of hB) _).mono ?_)
  rintro e w2 ⟨rfl, hb⟩
  have Ba' : Box w2 (w.heap.size) #[.int .i64 (x), .int .u64 (limb 0 A), .int .u64 (limb 1 A), .int .u64 (limb 2 A), .int .u64 (limb 3 A)] := Box.call hb (by repeat (first | with_reducible assumption | with_reducible apply Box.set10 | with_reducible apply Box.set20 | with_reducible apply Box.set21 | with_reducible apply Box.set40 | with_reducible apply Box.set41 | with_reducible apply Box.set42 | with_reducible apply Box.set43 | with_reducible apply Box.set50 | with_reducible apply Box.set51 | with_reducible apply Box.set52 | with_reducible apply Box.set53 | with_reducible apply Box.set54 | with_reducible apply Box.drew | (with_reducible apply Box.newAt; (try simp only [World.size_alloc, World.size_setCell, World.size_drew]); done) | with_reducible apply Box.alloc | (with_reducible apply Box.other; case hne => ((try simp only [World.size_alloc, World.size_setCell, World.size_drew]); omega))))
  have Bb' : Box w2 (w.heap.size + 1) #[.int .i64 (y), .int .u64 (limb 0 B), .int .u64 (limb 1 B), .int .u64 (limb 2 B), .int .u64 (limb 3 B)] := Box.call hb (by repeat (first | with_reducible assumption | with_reducible apply Box.set10 | with_reducible apply Box.set20 | with_reducible apply Box.set21 | with_reducible apply Box.set40 | with_reducible apply Box.set41 | with_reducible apply Box.set42 | with_reducible apply Box.set43 | with_reducible apply Box.set50 | with_reducible apply Box.set51 | with_reducible apply Box.set52 | with_reducible apply Box.set53 | with_reducible apply Box.set54 | with_reducible apply Box.drew | (with_reducible apply Box.newAt; (try simp only [World.size_alloc, World.size_setCell, World.size_drew]); done) | with_reducible apply Box.alloc | (with_reducible apply Box.other; case hne => ((try simp only [World.size_alloc, World.size_setCell, World.size_drew]); omega))))
  have hk' : Kept w.heap.size w w2 := Kept.step (by repeat (first | with_reducible exact hk | with_reducible exact Kept.refl _ | with_reducible refine Kept.alloc ?_ _ | with_reducible refine Kept.drew ?_ | with_reducible refine Kept.setCell ?_ (by simp only [World.size_alloc, World.size_setCell, World.size_drew]; omega) _)) hb
  clear hk hb
  clear Ba Bal1 Bal2 Bal3 Baf Ba0 Ba1 Ba2 Ba3 Ba4
  clear Bb Bbl1 Bbl2 Bbl3 Bbf Bb0 Bb1 Bb2 Bb3 Bb4
  have Ba := Ba'
  clear Ba'
  have Bb := Bb'
  clear Bb'
  have hk := hk'
  clear hk'
  have hz_w2 := hk.size
  have Bal := Ba.lt
  have Baf := Ba.free
  have Bal1 : w.heap.size < w2.heap.size + 1 := by omega
  have Bal2 : w.heap.size < w2.heap.size + 1 + 1 := by omega
  have Bal3 : w.heap.size < w2.heap.size + 1 + 1 + 1 := by omega
  have Ba0 := Ba.cell 0 _ rfl
  have Ba1 := Ba.cell 1 _ rfl
  have Ba2 := Ba.cell 2 _ rfl
  have Ba3 := Ba.cell 3 _ rfl
  have Ba4 := Ba.cell 4 _ rfl
  have Bbl := Bb.lt
  have Bbf := Bb.free
  have Bbl1 : w.heap.size + 1 < w2.heap.size + 1 := by omega
  have Bbl2 : w.heap.size + 1 < w2.heap.size + 1 + 1 := by omega
  have Bbl3 : w.heap.size + 1 < w2.heap.size + 1 + 1 + 1 := by omega
  have Bb0 := Bb.cell 0 _ rfl
  have Bb1 := Bb.cell 1 _ rfl
  have Bb2 := Bb.cell 2 _ rfl
  have Bb3 := Bb.cell 3 _ rfl
  have Bb4 := Bb.cell 4 _ rfl
  go_wp2
  refine wp_region_uni 5 (fun W' => Kept w.heap.size w W' ∧ Box W' (w.heap.size) #[.int .i64 (x), .int .u64 (limb 0 A), .int .u64 (limb 1 A), .int .u64 (limb 2 A), .int .u64 (limb 3 A)] ∧ Box W' (w.heap.size + 1) #[.int .i64 (y), .int .u64 (limb 0 B), .int .u64 (limb 1 B), .int .u64 (limb 2 B), .int .u64 (limb 3 B)]) (w.heap.size + 1 + 1) (fun _ => #[]) (by kernel_rfl) (by kernel_rfl) (fun W W' h hb => ⟨h.1.step hb, Box.call hb (h.2.1), Box.call hb (h.2.2)⟩) (fun _ h => (h.2.2).lt) (⟨(by repeat (first | with_reducible exact hk | with_reducible exact Kept.refl _ | with_reducible refine Kept.alloc ?_ _ | with_reducible refine Kept.drew ?_ | with_reducible refine Kept.setCell ?_ (by simp only [World.size_alloc, World.size_setCell, World.size_drew]; omega) _)), (by repeat (first | with_reducible assumption | with_reducible apply Box.set10 | with_reducible apply Box.set20 | with_reducible apply Box.set21 | with_reducible apply Box.set40 | with_reducible apply Box.set41 | with_reducible apply Box.set42 | with_reducible apply Box.set43 | with_reducible apply Box.set50 | with_reducible apply Box.set51 | with_reducible apply Box.set52 | with_reducible apply Box.set53 | with_reducible apply Box.set54 | with_reducible apply Box.drew | (with_reducible apply Box.newAt; (try simp only [World.size_alloc, World.size_setCell, World.size_drew]); done) | with_reducible apply Box.alloc | (with_reducible apply Box.other; case hne => ((try simp only [World.size_alloc, World.size_setCell, World.size_drew]); omega)))), (by repeat (first | with_reducible assumption | with_reducible apply Box.set10 | with_reducible apply Box.set20 | with_reducible apply Box.set21 | with_reducible apply Box.set40 | with_reducible apply Box.set41 | with_reducible apply Box.set42 | with_reducible apply Box.set43 | with_reducible apply Box.set50 | with_reducible apply Box.set51 | with_reducible apply Box.set52 | with_reducible apply Box.set53 | with_reducible apply Box.set54 | with_reducible apply Box.drew | (with_reducible apply Box.newAt; (try simp only [World.size_alloc, World.size_setCell, World.size_drew]); done) | with_reducible apply Box.alloc | (with_reducible apply Box.other; case hne => ((try simp only [World.size_alloc, World.size_setCell, World.size_drew]); omega))))⟩) ?_
  clear hk
  clear Ba Bal1 Bal2 Bal3 Baf Ba0 Ba1 Ba2 Ba3 Ba4
  clear Bb Bbl1 Bbl2 Bbl3 Bbf Bb0 Bb1 Bb2 Bb3 Bb4
  simp only [List.take_succ_cons, List.take_zero, List.drop_succ_cons, List.drop_zero]
  refine hu_val ?_ (by rfl) (by rfl) ?_ ?_
  rotate_left
  · intro w hS; have Q0 := (hS.2.1).cell; have q0_0 := Q0 0 _ rfl; have q0_1 := Q0 1 _ rfl; have q0_2 := Q0 2 _ rfl; have q0_3 := Q0 3 _ rfl; have q0_4 := Q0 4 _ rfl; clear Q0; clear hS; go_simp; first | done | with_reducible rfl
  simp only [Act.put, List.setIfInBounds_toArray, List.set_cons_zero, List.set_cons_succ]
  refine hu_call ?_ ?_ ?_ (by rfl) (by rfl) ?_ ?_ ?_
  rotate_left 3
  · intro w hS; go_simp; first | done | with_reducible rfl | (constructor <;> with_reducible rfl)
  · intro w hS; refine (exp_any x A _).mono ?_; rintro e w' ⟨rfl, hb⟩; constructor; · with_reducible rfl
    · exact hb
  simp only [Act.put, List.setIfInBounds_toArray, List.set_cons_zero, List.set_cons_succ]
  refine hu_val ?_ (by rfl) (by rfl) ?_ ?_
  rotate_left
  · intro w hS; have Q1 := (hS.2.2).cell; have q1_0 := Q1 0 _ rfl; have q1_1 := Q1 1 _ rfl; have q1_2 := Q1 2 _ rfl; have q1_3 := Q1 3 _ rfl; have q1_4 := Q1 4 _ rfl; clear Q1; clear hS; go_simp; first | done | with_reducible rfl
  simp only [Act.put, List.setIfInBounds_toArray, List.set_cons_zero, List.set_cons_succ]
  refine hu_call ?_ ?_ ?_ (by rfl) (by rfl) ?_ ?_ ?_
  rotate_left 3
  · intro w hS; go_simp; first | done | with_reducible rfl | (constructor <;> with_reducible rfl)
  · intro w hS; refine (exp_any y B _).mono ?_; rintro e w' ⟨rfl, hb⟩; constructor; · with_reducible rfl
    · exact hb
  simp only [Act.put, List.setIfInBounds_toArray, List.set_cons_zero, List.set_cons_succ]
  refine hu_val ?_ (by rfl) (by rfl) ?_ ?_
  rotate_left
  · intro w hS; clear hS; go_simp; first | done | with_reducible rfl
  simp only [Act.put, List.setIfInBounds_toArray, List.set_cons_zero, List.set_cons_succ]
  intro w3 hS hE
  change wpList _ _ _ _ _ _
  obtain ⟨hk, Ba, Bb⟩ := hS
  clear hE
  have hz_w3 := hk.size
  have Bal := Ba.lt
  have Baf := Ba.free
  have Bal1 : w.heap.size < w3.heap.size + 1 := by omega
  have Bal2 : w.heap.size < w3.heap.size + 1 + 1 := by omega
  have Bal3 : w.heap.size < w3.heap.size + 1 + 1 + 1 := by omega
  have Ba0 := Ba.cell 0 _ rfl
  have Ba1 := Ba.cell 1 _ rfl
  have Ba2 := Ba.cell 2 _ rfl
  have Ba3 := Ba.cell 3 _ rfl
  have Ba4 := Ba.cell 4 _ rfl
  have Bbl := Bb.lt
  have Bbf := Bb.free
  have Bbl1 : w.heap.size + 1 < w3.heap.size + 1 := by omega
  have Bbl2 : w.heap.size + 1 < w3.heap.size + 1 + 1 := by omega
  have Bbl3 : w.heap.size + 1 < w3.heap.size + 1 + 1 + 1 := by omega
  have Bb0 := Bb.cell 0 _ rfl
  have Bb1 := Bb.cell 1 _ rfl
  have Bb2 := Bb.cell 2 _ rfl
  have Bb3 := Bb.cell 3 _ rfl
  have Bb4 := Bb.cell 4 _ rfl
  go_wp2
  all_goals go_ret
  all_goals exact ⟨ret_int (by first | (rw [← HL.out]; done) | (rw [← HL.out]; unfold maxI; split <;> omega)), (by refine Kept.below ?_; repeat (first | with_reducible exact hk | with_reducible exact Kept.refl _ | with_reducible refine Kept.alloc ?_ _ | with_reducible refine Kept.drew ?_ | with_reducible refine Kept.setCell ?_ (by simp only [World.size_alloc, World.size_setCell, World.size_drew]; omega) _))⟩
end Go.Proofs.Ythpmbfdbknikcaa
