/- package quot: the contract of next. -/
import Derived.Test.YtglagdmfplgfaaaWide
import Derived.Test.YtglagdmfplgfaaaQuotP
import Derived.Test.YtglagdmfplgfaaaKept
set_option linter.unusedVariables false
set_option linter.unusedSimpArgs false
namespace Go.Proofs.Ytglagdmfplgfaaa
open Go.RowKit

/-- twice the rest, and the bit, in 128 bits -/
def twN (r b : Nat) : Nat := add128 r r + b
theorem twN_w {r b : Nat} (hb : b ≤ 1) : W128 (twN r b) := ⟨by unfold twN add128; omega⟩
theorem tw_limb0 {r b : Nat} (hb : b ≤ 1) : bits .or .u64 (limb 0 (add128 r r)) (b : Int) = limb 0 (twN r b) := by
  rw [or_u64 (limb_u64 _ _) ⟨by omega, by omega⟩]
  have e : add128 r r % 2 = 0 := by unfold add128; omega
  generalize hX : add128 r r = X at *
  unfold twN limb
  rw [hX, Int.toNat_natCast, Int.toNat_natCast, Nat.mul_zero, Nat.pow_zero, Nat.div_one, Nat.div_one]
  have h2 : X % 2 ^ 64 = 2 ^ 1 * (X % 2 ^ 64 / 2) := by omega
  rw [h2, ← Nat.two_pow_add_eq_or_of_lt (by omega : b < 2 ^ 1)]
  omega
theorem tw_limb1 {r b : Nat} (hb : b ≤ 1) : limb 1 (add128 r r) = limb 1 (twN r b) := by
  have e : add128 r r % 2 = 0 := by unfold add128; omega
  generalize hX : add128 r r = X at *
  unfold twN limb
  rw [hX]; omega
theorem next_carry {r b d : Nat} (hd : W128 d) (hr : r < d) (hb : b ≤ 1) (h : carry128 r r = true) : sub128 (twN r b) d = nextN r b d ∧ onceB r b d = true := by
  have := hd.lt
  have h1 := of_decide_eq_true h
  unfold onceB nextN
  have h2 : onceB r b d = true := decide_eq_true (by omega)
  rw [if_pos h2]
  refine ⟨?_, decide_eq_true (by omega)⟩
  unfold sub128 twN add128; omega
theorem next_over {r b d : Nat} (hd : W128 d) (hr : r < d) (hb : b ≤ 1) (h : carry128 r r = false) (h3 : ltB (twN r b) d = false) : sub128 (twN r b) d = nextN r b d ∧ onceB r b d = true := by
  have := hd.lt
  have h1 := of_decide_eq_false h
  have h4 := of_decide_eq_false h3
  have e : twN r b = 2 * r + b := by unfold twN add128; omega
  unfold nextN
  have h2 : onceB r b d = true := decide_eq_true (by omega)
  rw [if_pos h2]
  exact ⟨by unfold sub128; omega, h2⟩
theorem next_no {r b d : Nat} (hd : W128 d) (hr : r < d) (hb : b ≤ 1) (h : carry128 r r = false) (h3 : ltB (twN r b) d = true) : twN r b = nextN r b d ∧ onceB r b d = false := by
  have := hd.lt
  have h1 := of_decide_eq_false h
  have h4 := of_decide_eq_true h3
  have e : twN r b = 2 * r + b := by unfold twN add128; omega
  unfold nextN
  have h2 : onceB r b d = false := decide_eq_false (by omega)
  rw [if_neg (by rw [h2]; decide)]
  exact ⟨e, h2⟩

set_option maxRecDepth 100000 in
set_option maxHeartbeats 8000000 in
theorem next_w1 {r b d : Nat} (hw : W128 r) (hd : W128 d) (hb : b ≤ 1) (c1 : carry128 r r = true) (w : World) :
    Calls Try.prog 74 #[bitsV r, .int .u64 (b : Int), bitsV d] w fun e w' => e = .returned (.tuple #[bitsV (sub128 (twN r b) d), .bool true]) ∧ Below w.heap.size w w' := by
  have hk := Kept.refl w
  have f1 := tw_limb0 (r := r) hb
  have f2 := tw_limb1 (r := r) hb
  have hT := twN_w (r := r) hb
  have hI : IsBits (limb 1 (add128 r r)) (limb 0 (twN r b)) (twN r b) := by rw [f2]; exact IsBits.of hT
  clear f2
  go_enter Try.func74, Try.ntmps74
  go_wp2_with fail
  (with_reducible refine (Add_at (IsBits.of hw) (IsBits.of hw) _).mono ?_)
  rintro e w1 ⟨rfl, hb⟩
  have X2' : Box w1 (w.heap.size + 1) #[.int .u64 (limb 1 d), .int .u64 (limb 0 d)] := Box.call hb (by repeat (first | with_reducible assumption | with_reducible apply Box.set10 | with_reducible apply Box.set20 | with_reducible apply Box.set21 | with_reducible apply Box.set40 | with_reducible apply Box.set41 | with_reducible apply Box.set42 | with_reducible apply Box.set43 | with_reducible apply Box.set50 | with_reducible apply Box.set51 | with_reducible apply Box.set52 | with_reducible apply Box.set53 | with_reducible apply Box.set54 | with_reducible apply Box.drew | (with_reducible apply Box.newAt; (try simp only [World.size_alloc, World.size_setCell, World.size_drew]); done) | with_reducible apply Box.alloc | (with_reducible apply Box.other; case hne => ((try simp only [World.size_alloc, World.size_setCell, World.size_drew]); omega))))
  have X3' : Box w1 (w.heap.size + 1 + 1) #[.int .u64 0, .int .u64 0] := Box.call hb (by repeat (first | with_reducible assumption | with_reducible apply Box.set10 | with_reducible apply Box.set20 | with_reducible apply Box.set21 | with_reducible apply Box.set40 | with_reducible apply Box.set41 | with_reducible apply Box.set42 | with_reducible apply Box.set43 | with_reducible apply Box.set50 | with_reducible apply Box.set51 | with_reducible apply Box.set52 | with_reducible apply Box.set53 | with_reducible apply Box.set54 | with_reducible apply Box.drew | (with_reducible apply Box.newAt; (try simp only [World.size_alloc, World.size_setCell, World.size_drew]); done) | with_reducible apply Box.alloc | (with_reducible apply Box.other; case hne => ((try simp only [World.size_alloc, World.size_setCell, World.size_drew]); omega))))
  have hk' : Kept w.heap.size w w1 := Kept.step (by repeat (first | with_reducible exact hk | with_reducible exact Kept.refl _ | with_reducible refine Kept.alloc ?_ _ | with_reducible refine Kept.drew ?_ | with_reducible refine Kept.setCell ?_ (by simp only [World.size_alloc, World.size_setCell, World.size_drew]; omega) _)) hb
  clear hk hb
  have X2 := X2'
  clear X2'
  have X3 := X3'
  clear X3'
  have hk := hk'
  clear hk'
  have hz_w1 := hk.size
  have X2l := X2.lt
  have X2f := X2.free
  have X2l1 : w.heap.size + 1 < w1.heap.size + 1 := by omega
  have X2l2 : w.heap.size + 1 < w1.heap.size + 1 + 1 := by omega
  have X2l3 : w.heap.size + 1 < w1.heap.size + 1 + 1 + 1 := by omega
  have X20 := X2.cell 0 _ rfl
  have X21 := X2.cell 1 _ rfl
  have X3l := X3.lt
  have X3f := X3.free
  have X3l1 : w.heap.size + 1 + 1 < w1.heap.size + 1 := by omega
  have X3l2 : w.heap.size + 1 + 1 < w1.heap.size + 1 + 1 := by omega
  have X3l3 : w.heap.size + 1 + 1 < w1.heap.size + 1 + 1 + 1 := by omega
  have X30 := X3.cell 0 _ rfl
  have X31 := X3.cell 1 _ rfl
  go_wp2_with fail
  (with_reducible refine (Sub_at hI (IsBits.of hd) _).mono ?_)
  rintro e w2 ⟨rfl, hb⟩
  have X3' : Box w2 (w.heap.size + 1 + 1) #[.int .u64 0, .int .u64 0] := Box.call hb (by repeat (first | with_reducible assumption | with_reducible apply Box.set10 | with_reducible apply Box.set20 | with_reducible apply Box.set21 | with_reducible apply Box.set40 | with_reducible apply Box.set41 | with_reducible apply Box.set42 | with_reducible apply Box.set43 | with_reducible apply Box.set50 | with_reducible apply Box.set51 | with_reducible apply Box.set52 | with_reducible apply Box.set53 | with_reducible apply Box.set54 | with_reducible apply Box.drew | (with_reducible apply Box.newAt; (try simp only [World.size_alloc, World.size_setCell, World.size_drew]); done) | with_reducible apply Box.alloc | (with_reducible apply Box.other; case hne => ((try simp only [World.size_alloc, World.size_setCell, World.size_drew]); omega))))
  have hk' : Kept w.heap.size w w2 := Kept.step (by repeat (first | with_reducible exact hk | with_reducible exact Kept.refl _ | with_reducible refine Kept.alloc ?_ _ | with_reducible refine Kept.drew ?_ | with_reducible refine Kept.setCell ?_ (by simp only [World.size_alloc, World.size_setCell, World.size_drew]; omega) _)) hb
  clear hk hb
  clear X2 X2l1 X2l2 X2l3 X2f X20 X21
  clear X3 X3l1 X3l2 X3l3 X3f X30 X31
  have X3 := X3'
  clear X3'
  have hk := hk'
  clear hk'
  have hz_w2 := hk.size
  have X3l := X3.lt
  have X3f := X3.free
  have X3l1 : w.heap.size + 1 + 1 < w2.heap.size + 1 := by omega
  have X3l2 : w.heap.size + 1 + 1 < w2.heap.size + 1 + 1 := by omega
  have X3l3 : w.heap.size + 1 + 1 < w2.heap.size + 1 + 1 + 1 := by omega
  have X30 := X3.cell 0 _ rfl
  have X31 := X3.cell 1 _ rfl
  go_wp2
  refine bodyPost_ret (v := .tuple #[bitsV (sub128 (twN r b) d), .bool true]) (by simp [results, Try.results74, go_sem, X30, X31, X3l, Nat.ne_of_lt X3l, Nat.ne_of_gt X3l]) rfl ⟨rfl, ?_⟩
  refine Kept.below ?_; repeat (first | with_reducible exact hk | with_reducible exact Kept.refl _ | with_reducible refine Kept.alloc ?_ _ | with_reducible refine Kept.drew ?_ | with_reducible refine Kept.setCell ?_ (by simp only [World.size_alloc, World.size_setCell, World.size_drew]; omega) _)

set_option maxRecDepth 100000 in
set_option maxHeartbeats 8000000 in
theorem next_w2 {r b d : Nat} (hw : W128 r) (hd : W128 d) (hb : b ≤ 1) (c1 : carry128 r r = false) (c2 : ltB (twN r b) d = false) (w : World) :
    Calls Try.prog 74 #[bitsV r, .int .u64 (b : Int), bitsV d] w fun e w' => e = .returned (.tuple #[bitsV (sub128 (twN r b) d), .bool true]) ∧ Below w.heap.size w w' := by
  have hk := Kept.refl w
  have f1 := tw_limb0 (r := r) hb
  have f2 := tw_limb1 (r := r) hb
  have hT := twN_w (r := r) hb
  have hI : IsBits (limb 1 (add128 r r)) (limb 0 (twN r b)) (twN r b) := by rw [f2]; exact IsBits.of hT
  clear f2
  go_enter Try.func74, Try.ntmps74
  go_wp2_with fail
  (with_reducible refine (Add_at (IsBits.of hw) (IsBits.of hw) _).mono ?_)
  rintro e w1 ⟨rfl, hb⟩
  have X2' : Box w1 (w.heap.size + 1) #[.int .u64 (limb 1 d), .int .u64 (limb 0 d)] := Box.call hb (by repeat (first | with_reducible assumption | with_reducible apply Box.set10 | with_reducible apply Box.set20 | with_reducible apply Box.set21 | with_reducible apply Box.set40 | with_reducible apply Box.set41 | with_reducible apply Box.set42 | with_reducible apply Box.set43 | with_reducible apply Box.set50 | with_reducible apply Box.set51 | with_reducible apply Box.set52 | with_reducible apply Box.set53 | with_reducible apply Box.set54 | with_reducible apply Box.drew | (with_reducible apply Box.newAt; (try simp only [World.size_alloc, World.size_setCell, World.size_drew]); done) | with_reducible apply Box.alloc | (with_reducible apply Box.other; case hne => ((try simp only [World.size_alloc, World.size_setCell, World.size_drew]); omega))))
  have X3' : Box w1 (w.heap.size + 1 + 1) #[.int .u64 0, .int .u64 0] := Box.call hb (by repeat (first | with_reducible assumption | with_reducible apply Box.set10 | with_reducible apply Box.set20 | with_reducible apply Box.set21 | with_reducible apply Box.set40 | with_reducible apply Box.set41 | with_reducible apply Box.set42 | with_reducible apply Box.set43 | with_reducible apply Box.set50 | with_reducible apply Box.set51 | with_reducible apply Box.set52 | with_reducible apply Box.set53 | with_reducible apply Box.set54 | with_reducible apply Box.drew | (with_reducible apply Box.newAt; (try simp only [World.size_alloc, World.size_setCell, World.size_drew]); done) | with_reducible apply Box.alloc | (with_reducible apply Box.other; case hne => ((try simp only [World.size_alloc, World.size_setCell, World.size_drew]); omega))))
  have hk' : Kept w.heap.size w w1 := Kept.step (by repeat (first | with_reducible exact hk | with_reducible exact Kept.refl _ | with_reducible refine Kept.alloc ?_ _ | with_reducible refine Kept.drew ?_ | with_reducible refine Kept.setCell ?_ (by simp only [World.size_alloc, World.size_setCell, World.size_drew]; omega) _)) hb
  clear hk hb
  have X2 := X2'
  clear X2'
  have X3 := X3'
  clear X3'
  have hk := hk'
  clear hk'
  have hz_w1 := hk.size
  have X2l := X2.lt
  have X2f := X2.free
  have X2l1 : w.heap.size + 1 < w1.heap.size + 1 := by omega
  have X2l2 : w.heap.size + 1 < w1.heap.size + 1 + 1 := by omega
  have X2l3 : w.heap.size + 1 < w1.heap.size + 1 + 1 + 1 := by omega
  have X20 := X2.cell 0 _ rfl
  have X21 := X2.cell 1 _ rfl
  have X3l := X3.lt
  have X3f := X3.free
  have X3l1 : w.heap.size + 1 + 1 < w1.heap.size + 1 := by omega
  have X3l2 : w.heap.size + 1 + 1 < w1.heap.size + 1 + 1 := by omega
  have X3l3 : w.heap.size + 1 + 1 < w1.heap.size + 1 + 1 + 1 := by omega
  have X30 := X3.cell 0 _ rfl
  have X31 := X3.cell 1 _ rfl
  go_wp2_with fail
  (with_reducible refine (Sub_at hI (IsBits.of hd) _).mono ?_)
  rintro e w2 ⟨rfl, hb⟩
  have X3' : Box w2 (w.heap.size + 1 + 1) #[.int .u64 0, .int .u64 0] := Box.call hb (by repeat (first | with_reducible assumption | with_reducible apply Box.set10 | with_reducible apply Box.set20 | with_reducible apply Box.set21 | with_reducible apply Box.set40 | with_reducible apply Box.set41 | with_reducible apply Box.set42 | with_reducible apply Box.set43 | with_reducible apply Box.set50 | with_reducible apply Box.set51 | with_reducible apply Box.set52 | with_reducible apply Box.set53 | with_reducible apply Box.set54 | with_reducible apply Box.drew | (with_reducible apply Box.newAt; (try simp only [World.size_alloc, World.size_setCell, World.size_drew]); done) | with_reducible apply Box.alloc | (with_reducible apply Box.other; case hne => ((try simp only [World.size_alloc, World.size_setCell, World.size_drew]); omega))))
  have hk' : Kept w.heap.size w w2 := Kept.step (by repeat (first | with_reducible exact hk | with_reducible exact Kept.refl _ | with_reducible refine Kept.alloc ?_ _ | with_reducible refine Kept.drew ?_ | with_reducible refine Kept.setCell ?_ (by simp only [World.size_alloc, World.size_setCell, World.size_drew]; omega) _)) hb
  clear hk hb
  clear X2 X2l1 X2l2 X2l3 X2f X20 X21
  clear X3 X3l1 X3l2 X3l3 X3f X30 X31
  have X3 := X3'
  clear X3'
  have hk := hk'
  clear hk'
  have hz_w2 := hk.size
  have X3l := X3.lt
  have X3f := X3.free
  have X3l1 : w.heap.size + 1 + 1 < w2.heap.size + 1 := by omega
  have X3l2 : w.heap.size + 1 + 1 < w2.heap.size + 1 + 1 := by omega
  have X3l3 : w.heap.size + 1 + 1 < w2.heap.size + 1 + 1 + 1 := by omega
  have X30 := X3.cell 0 _ rfl
  have X31 := X3.cell 1 _ rfl
  go_wp2
  refine bodyPost_ret (v := .tuple #[bitsV (sub128 (twN r b) d), .bool true]) (by simp [results, Try.results74, go_sem, X30, X31, X3l, Nat.ne_of_lt X3l, Nat.ne_of_gt X3l]) rfl ⟨rfl, ?_⟩
  refine Kept.below ?_; repeat (first | with_reducible exact hk | with_reducible exact Kept.refl _ | with_reducible refine Kept.alloc ?_ _ | with_reducible refine Kept.drew ?_ | with_reducible refine Kept.setCell ?_ (by simp only [World.size_alloc, World.size_setCell, World.size_drew]; omega) _)

set_option maxRecDepth 100000 in
set_option maxHeartbeats 8000000 in
theorem next_w3 {r b d : Nat} (hw : W128 r) (hd : W128 d) (hb : b ≤ 1) (c1 : carry128 r r = false) (c2 : ltB (twN r b) d = true) (w : World) :
    Calls Try.prog 74 #[bitsV r, .int .u64 (b : Int), bitsV d] w fun e w' => e = .returned (.tuple #[.agg #[.int .u64 (limb 1 (add128 r r)), .int .u64 (limb 0 (twN r b))], .bool false]) ∧ Below w.heap.size w w' := by
  have hk := Kept.refl w
  have f1 := tw_limb0 (r := r) hb
  have f2 := tw_limb1 (r := r) hb
  have hT := twN_w (r := r) hb
  have hI : IsBits (limb 1 (add128 r r)) (limb 0 (twN r b)) (twN r b) := by rw [f2]; exact IsBits.of hT
  clear f2
  go_enter Try.func74, Try.ntmps74
  go_wp2_with fail
  (with_reducible refine (Add_at (IsBits.of hw) (IsBits.of hw) _).mono ?_)
  rintro e w1 ⟨rfl, hb⟩
  have X2' : Box w1 (w.heap.size + 1) #[.int .u64 (limb 1 d), .int .u64 (limb 0 d)] := Box.call hb (by repeat (first | with_reducible assumption | with_reducible apply Box.set10 | with_reducible apply Box.set20 | with_reducible apply Box.set21 | with_reducible apply Box.set40 | with_reducible apply Box.set41 | with_reducible apply Box.set42 | with_reducible apply Box.set43 | with_reducible apply Box.set50 | with_reducible apply Box.set51 | with_reducible apply Box.set52 | with_reducible apply Box.set53 | with_reducible apply Box.set54 | with_reducible apply Box.drew | (with_reducible apply Box.newAt; (try simp only [World.size_alloc, World.size_setCell, World.size_drew]); done) | with_reducible apply Box.alloc | (with_reducible apply Box.other; case hne => ((try simp only [World.size_alloc, World.size_setCell, World.size_drew]); omega))))
  have X3' : Box w1 (w.heap.size + 1 + 1) #[.int .u64 0, .int .u64 0] := Box.call hb (by repeat (first | with_reducible assumption | with_reducible apply Box.set10 | with_reducible apply Box.set20 | with_reducible apply Box.set21 | with_reducible apply Box.set40 | with_reducible apply Box.set41 | with_reducible apply Box.set42 | with_reducible apply Box.set43 | with_reducible apply Box.set50 | with_reducible apply Box.set51 | with_reducible apply Box.set52 | with_reducible apply Box.set53 | with_reducible apply Box.set54 | with_reducible apply Box.drew | (with_reducible apply Box.newAt; (try simp only [World.size_alloc, World.size_setCell, World.size_drew]); done) | with_reducible apply Box.alloc | (with_reducible apply Box.other; case hne => ((try simp only [World.size_alloc, World.size_setCell, World.size_drew]); omega))))
  have hk' : Kept w.heap.size w w1 := Kept.step (by repeat (first | with_reducible exact hk | with_reducible exact Kept.refl _ | with_reducible refine Kept.alloc ?_ _ | with_reducible refine Kept.drew ?_ | with_reducible refine Kept.setCell ?_ (by simp only [World.size_alloc, World.size_setCell, World.size_drew]; omega) _)) hb
  clear hk hb
  have X2 := X2'
  clear X2'
  have X3 := X3'
  clear X3'
  have hk := hk'
  clear hk'
  have hz_w1 := hk.size
  have X2l := X2.lt
  have X2f := X2.free
  have X2l1 : w.heap.size + 1 < w1.heap.size + 1 := by omega
  have X2l2 : w.heap.size + 1 < w1.heap.size + 1 + 1 := by omega
  have X2l3 : w.heap.size + 1 < w1.heap.size + 1 + 1 + 1 := by omega
  have X20 := X2.cell 0 _ rfl
  have X21 := X2.cell 1 _ rfl
  have X3l := X3.lt
  have X3f := X3.free
  have X3l1 : w.heap.size + 1 + 1 < w1.heap.size + 1 := by omega
  have X3l2 : w.heap.size + 1 + 1 < w1.heap.size + 1 + 1 := by omega
  have X3l3 : w.heap.size + 1 + 1 < w1.heap.size + 1 + 1 + 1 := by omega
  have X30 := X3.cell 0 _ rfl
  have X31 := X3.cell 1 _ rfl
  go_wp2_with fail
  (with_reducible refine (Sub_at hI (IsBits.of hd) _).mono ?_)
  rintro e w2 ⟨rfl, hb⟩
  have X3' : Box w2 (w.heap.size + 1 + 1) #[.int .u64 0, .int .u64 0] := Box.call hb (by repeat (first | with_reducible assumption | with_reducible apply Box.set10 | with_reducible apply Box.set20 | with_reducible apply Box.set21 | with_reducible apply Box.set40 | with_reducible apply Box.set41 | with_reducible apply Box.set42 | with_reducible apply Box.set43 | with_reducible apply Box.set50 | with_reducible apply Box.set51 | with_reducible apply Box.set52 | with_reducible apply Box.set53 | with_reducible apply Box.set54 | with_reducible apply Box.drew | (with_reducible apply Box.newAt; (try simp only [World.size_alloc, World.size_setCell, World.size_drew]); done) | with_reducible apply Box.alloc | (with_reducible apply Box.other; case hne => ((try simp only [World.size_alloc, World.size_setCell, World.size_drew]); omega))))
  have X4' : Box w2 (w1.heap.size) #[.int .u64 (limb 1 (add128 r r)), .int .u64 (limb 0 (twN r b))] := Box.call hb (by repeat (first | with_reducible assumption | with_reducible apply Box.set10 | with_reducible apply Box.set20 | with_reducible apply Box.set21 | with_reducible apply Box.set40 | with_reducible apply Box.set41 | with_reducible apply Box.set42 | with_reducible apply Box.set43 | with_reducible apply Box.set50 | with_reducible apply Box.set51 | with_reducible apply Box.set52 | with_reducible apply Box.set53 | with_reducible apply Box.set54 | with_reducible apply Box.drew | (with_reducible apply Box.newAt; (try simp only [World.size_alloc, World.size_setCell, World.size_drew]); done) | with_reducible apply Box.alloc | (with_reducible apply Box.other; case hne => ((try simp only [World.size_alloc, World.size_setCell, World.size_drew]); omega))))
  have hk' : Kept w.heap.size w w2 := Kept.step (by repeat (first | with_reducible exact hk | with_reducible exact Kept.refl _ | with_reducible refine Kept.alloc ?_ _ | with_reducible refine Kept.drew ?_ | with_reducible refine Kept.setCell ?_ (by simp only [World.size_alloc, World.size_setCell, World.size_drew]; omega) _)) hb
  clear hk hb
  clear X2 X2l1 X2l2 X2l3 X2f X20 X21
  clear X3 X3l1 X3l2 X3l3 X3f X30 X31
  have X3 := X3'
  clear X3'
  have X4 := X4'
  clear X4'
  have hk := hk'
  clear hk'
  have hz_w2 := hk.size
  have X3l := X3.lt
  have X3f := X3.free
  have X3l1 : w.heap.size + 1 + 1 < w2.heap.size + 1 := by omega
  have X3l2 : w.heap.size + 1 + 1 < w2.heap.size + 1 + 1 := by omega
  have X3l3 : w.heap.size + 1 + 1 < w2.heap.size + 1 + 1 + 1 := by omega
  have X30 := X3.cell 0 _ rfl
  have X31 := X3.cell 1 _ rfl
  have X4l := X4.lt
  have X4f := X4.free
  have X4l1 : w1.heap.size < w2.heap.size + 1 := by omega
  have X4l2 : w1.heap.size < w2.heap.size + 1 + 1 := by omega
  have X4l3 : w1.heap.size < w2.heap.size + 1 + 1 + 1 := by omega
  have X40 := X4.cell 0 _ rfl
  have X41 := X4.cell 1 _ rfl
  go_wp2
  refine bodyPost_ret (v := .tuple #[.agg #[.int .u64 (limb 1 (add128 r r)), .int .u64 (limb 0 (twN r b))], .bool false]) (by simp [results, Try.results74, go_sem, X30, X31, X3l, Nat.ne_of_lt X3l, Nat.ne_of_gt X3l]) rfl ⟨rfl, ?_⟩
  refine Kept.below ?_; repeat (first | with_reducible exact hk | with_reducible exact Kept.refl _ | with_reducible refine Kept.alloc ?_ _ | with_reducible refine Kept.drew ?_ | with_reducible refine Kept.setCell ?_ (by simp only [World.size_alloc, World.size_setCell, World.size_drew]; omega) _)

theorem next_any {r b d : Nat} (hd : W128 d) (hr : r < d) (hb : b ≤ 1) (w : World) :
    Calls Try.prog 74 #[bitsV r, .int .u64 (b : Int), bitsV d] w fun e w' => e = .returned (.tuple #[bitsV (nextN r b d), .bool (onceB r b d)]) ∧ Below w.heap.size w w' := by
  have hw : W128 r := ⟨Nat.lt_trans hr hd.lt⟩
  cases c1 : carry128 r r with
  | true => obtain ⟨e1, e2⟩ := next_carry hd hr hb c1; rw [← e1, e2]; exact next_w1 hw hd hb c1 w
  | false =>
    cases c2 : ltB (twN r b) d with
    | false => obtain ⟨e1, e2⟩ := next_over hd hr hb c1 c2; rw [← e1, e2]; exact next_w2 hw hd hb c1 c2 w
    | true => obtain ⟨e1, e2⟩ := next_no hd hr hb c1 c2; have e3 : bitsV (twN r b) = .agg #[.int .u64 (limb 1 (add128 r r)), .int .u64 (limb 0 (twN r b))] := (by rw [tw_limb1 hb]); rw [← e1, e2, e3]; exact next_w3 hw hd hb c1 c2 w
end Go.Proofs.Ytglagdmfplgfaaa
