/- The walk of WordMul. -/
import Derived.Test.YtohlhmicolnmbaaLaw01
namespace Go.Proofs.Ytohlhmicolnmbaa
open Go.RowKit

theorem mulI_turn (x y : Int) : mulI y x = mulI x y := by unfold mulI; exact Nat.mul_comm _ _
theorem mulI_w {x y : Int} (hx : U64 x) (hy : U64 y) : W128 (mulI x y) := ⟨by
  unfold mulI
  have := hx.hi; have := hy.hi; have := hx.lo; have := hy.lo
  have h1 : x.toNat ≤ 2 ^ 64 - 1 := by omega
  have h2 : y.toNat ≤ 2 ^ 64 - 1 := by omega
  have := Nat.mul_le_mul h1 h2
  omega⟩
theorem mulI_one {a : Int} (h : U64 a) : limb 0 (mulI a 1) = a ∧ limb 1 (mulI a 1) = 0 := by
  have := h.lo; have := h.hi
  unfold mulI limb
  rw [show (1 : Int).toNat = 1 from rfl, Nat.mul_one]; omega
theorem mulI_zero (a : Int) : zeroB (mulI a 0) = true := by unfold mulI zeroB; simp
theorem mulI_sum {a b c s : Int} (ha : U64 a) (hb : U64 b) (hc : U64 c) (hs : U64 s) (e : s = b + c) : add128 (mulI a b) (mulI a c) = mulI a s := by
  have := ha.lo; have := ha.hi; have := hb.lo; have := hc.lo; have := hs.hi
  unfold mulI
  rw [show s.toNat = b.toNat + c.toNat by omega]
  exact mul_sum (by omega) (by omega)
theorem mulI_over {a b c s : Int} (ha : U64 a) (hb : U64 b) (hc : U64 c) (hs : U64 s) (e : s + 2 ^ 64 = b + c) : add128 (mulI a s) (val2 0 a) = add128 (mulI a b) (mulI a c) := by
  have := ha.lo; have := hb.lo; have := hc.lo; have := hs.lo
  have h := mul_over (a := a.toNat) (b := b.toNat) (c := c.toNat) (s := s.toNat) (by omega)
  unfold mulI
  rw [← h]
  unfold val2
  rw [show (0 : Int).toNat = 0 from rfl, Int.toNat_natCast]
set_option maxHeartbeats 4000000 in
theorem WordMul_no {a b c s : Int} (ha : U64 a) (hb : U64 b) (hc : U64 c) (hs : U64 s) (f0 : IntKind.u64.wrap (b + c) = s) (e : s = b + c) (w : World) :
    Calls Try.prog 11 #[.int .u64 a, .int .u64 b, .int .u64 c] w fun e w' => e = .returned (.bool true) ∧ Below w.heap.size w w' := by
  have hk := Kept.refl w
  have f5 := mulI_sum ha hb hc hs e
  have f6 : ¬ s < b := by have := hc.lo; omega
  clear e
  have f1 := mulI_turn a b
  have f2 := (mulI_one ha).1
  have f3 := (mulI_one ha).2
  have f4 := mulI_zero a
  go_enter Try.func11, Try.ntmps11
  go_wp2_with fail
  (with_reducible refine (Mul_at (by first | assumption | exact isU64_mk (by decide +kernel)) (by first | assumption | exact isU64_mk (by decide +kernel)) _).mono ?_)
  rintro e w1 ⟨rfl, hb⟩
  have hk' : Kept w.heap.size w w1 := Kept.step (by repeat (first | with_reducible exact hk | with_reducible exact Kept.refl _ | with_reducible refine Kept.alloc ?_ _ | with_reducible refine Kept.drew ?_ | with_reducible refine Kept.setCell ?_ (by simp only [World.size_alloc, World.size_setCell, World.size_drew]; omega) _)) hb
  clear hk
  have hk := hk'
  clear hk' hb
  have hz_w1 := hk.size
  go_wp2_with fail
  (with_reducible refine (Mul_at (by first | assumption | exact isU64_mk (by decide +kernel)) (by first | assumption | exact isU64_mk (by decide +kernel)) _).mono ?_)
  rintro e w2 ⟨rfl, hb⟩
  have hk' : Kept w.heap.size w w2 := Kept.step (by repeat (first | with_reducible exact hk | with_reducible exact Kept.refl _ | with_reducible refine Kept.alloc ?_ _ | with_reducible refine Kept.drew ?_ | with_reducible refine Kept.setCell ?_ (by simp only [World.size_alloc, World.size_setCell, World.size_drew]; omega) _)) hb
  clear hk
  have hk := hk'
  clear hk' hb
  have hz_w2 := hk.size
  go_wp2_with fail
  (with_reducible refine (Add_at (by first | (with_reducible refine IsBits.of ?_; first | assumption | exact add128_w _ _ | exact mulI_w (by first | assumption | exact isU64_mk (by decide +kernel)) (by first | assumption | exact isU64_mk (by decide +kernel))) | (with_reducible refine IsBits.val ?_ ?_ <;> first | assumption | exact u64_zero | exact limb_u64 _ _ | exact isU64_mk (by decide +kernel))) (by first | (with_reducible refine IsBits.of ?_; first | assumption | exact add128_w _ _ | exact mulI_w (by first | assumption | exact isU64_mk (by decide +kernel)) (by first | assumption | exact isU64_mk (by decide +kernel))) | (with_reducible refine IsBits.val ?_ ?_ <;> first | assumption | exact u64_zero | exact limb_u64 _ _ | exact isU64_mk (by decide +kernel))) _).mono ?_)
  rintro e w3 ⟨rfl, hb⟩
  have hk' : Kept w.heap.size w w3 := Kept.step (by repeat (first | with_reducible exact hk | with_reducible exact Kept.refl _ | with_reducible refine Kept.alloc ?_ _ | with_reducible refine Kept.drew ?_ | with_reducible refine Kept.setCell ?_ (by simp only [World.size_alloc, World.size_setCell, World.size_drew]; omega) _)) hb
  clear hk
  have hk := hk'
  clear hk' hb
  have hz_w3 := hk.size
  go_wp2_with fail
  (with_reducible refine (Mul_at (by first | assumption | exact isU64_mk (by decide +kernel)) (by first | assumption | exact isU64_mk (by decide +kernel)) _).mono ?_)
  rintro e w4 ⟨rfl, hb⟩
  have Bx' : Box w4 (w3.heap.size) _ := Box.call hb (by repeat (first | with_reducible assumption | with_reducible apply Box.set10 | with_reducible apply Box.set20 | with_reducible apply Box.set21 | with_reducible apply Box.set40 | with_reducible apply Box.set41 | with_reducible apply Box.set42 | with_reducible apply Box.set43 | with_reducible apply Box.set50 | with_reducible apply Box.set51 | with_reducible apply Box.set52 | with_reducible apply Box.set53 | with_reducible apply Box.set54 | with_reducible apply Box.drew | (with_reducible apply Box.newAt; (try simp only [World.size_alloc, World.size_setCell, World.size_drew]); done) | with_reducible apply Box.alloc | (with_reducible apply Box.other; case hne => ((try simp only [World.size_alloc, World.size_setCell, World.size_drew]); omega))))
  have hk' : Kept w.heap.size w w4 := Kept.step (by repeat (first | with_reducible exact hk | with_reducible exact Kept.refl _ | with_reducible refine Kept.alloc ?_ _ | with_reducible refine Kept.drew ?_ | with_reducible refine Kept.setCell ?_ (by simp only [World.size_alloc, World.size_setCell, World.size_drew]; omega) _)) hb
  clear hk
  have Bx := Bx'
  clear Bx'
  have hk := hk'
  clear hk' hb
  have hz_w4 := hk.size
  have Bxc := Bx.cell
  have Bxl := Bx.lt
  have Bxf := Bx.free
  have Bxl1 : w3.heap.size < w4.heap.size + 1 := by omega
  have Bxl2 : w3.heap.size < w4.heap.size + 1 + 1 := by omega
  have Bxl3 : w3.heap.size < w4.heap.size + 1 + 1 + 1 := by omega
  have Bx0 := Bxc 0 _ rfl
  have Bx1 := Bxc 1 _ rfl
  clear Bxc
  go_wp2_with fail
  (with_reducible refine (Mul_at (by first | assumption | exact isU64_mk (by decide +kernel)) (by first | assumption | exact isU64_mk (by decide +kernel)) _).mono ?_)
  rintro e w5 ⟨rfl, hb⟩
  have Bx' : Box w5 (w3.heap.size) _ := Box.call hb (by repeat (first | with_reducible assumption | with_reducible apply Box.set10 | with_reducible apply Box.set20 | with_reducible apply Box.set21 | with_reducible apply Box.set40 | with_reducible apply Box.set41 | with_reducible apply Box.set42 | with_reducible apply Box.set43 | with_reducible apply Box.set50 | with_reducible apply Box.set51 | with_reducible apply Box.set52 | with_reducible apply Box.set53 | with_reducible apply Box.set54 | with_reducible apply Box.drew | (with_reducible apply Box.newAt; (try simp only [World.size_alloc, World.size_setCell, World.size_drew]); done) | with_reducible apply Box.alloc | (with_reducible apply Box.other; case hne => ((try simp only [World.size_alloc, World.size_setCell, World.size_drew]); omega))))
  have By' : Box w5 (w4.heap.size) _ := Box.call hb (by repeat (first | with_reducible assumption | with_reducible apply Box.set10 | with_reducible apply Box.set20 | with_reducible apply Box.set21 | with_reducible apply Box.set40 | with_reducible apply Box.set41 | with_reducible apply Box.set42 | with_reducible apply Box.set43 | with_reducible apply Box.set50 | with_reducible apply Box.set51 | with_reducible apply Box.set52 | with_reducible apply Box.set53 | with_reducible apply Box.set54 | with_reducible apply Box.drew | (with_reducible apply Box.newAt; (try simp only [World.size_alloc, World.size_setCell, World.size_drew]); done) | with_reducible apply Box.alloc | (with_reducible apply Box.other; case hne => ((try simp only [World.size_alloc, World.size_setCell, World.size_drew]); omega))))
  have hk' : Kept w.heap.size w w5 := Kept.step (by repeat (first | with_reducible exact hk | with_reducible exact Kept.refl _ | with_reducible refine Kept.alloc ?_ _ | with_reducible refine Kept.drew ?_ | with_reducible refine Kept.setCell ?_ (by simp only [World.size_alloc, World.size_setCell, World.size_drew]; omega) _)) hb
  clear hk
  clear Bxl1 Bxl2 Bxl3 Bxf Bx0 Bx1
  clear Bx
  have Bx := Bx'
  clear Bx'
  have By := By'
  clear By'
  have hk := hk'
  clear hk' hb
  have hz_w5 := hk.size
  have Bxc := Bx.cell
  have Bxl := Bx.lt
  have Bxf := Bx.free
  have Bxl1 : w3.heap.size < w5.heap.size + 1 := by omega
  have Bxl2 : w3.heap.size < w5.heap.size + 1 + 1 := by omega
  have Bxl3 : w3.heap.size < w5.heap.size + 1 + 1 + 1 := by omega
  have Bx0 := Bxc 0 _ rfl
  have Bx1 := Bxc 1 _ rfl
  clear Bxc
  have Byc := By.cell
  have Byl := By.lt
  have Byf := By.free
  have Byl1 : w4.heap.size < w5.heap.size + 1 := by omega
  have Byl2 : w4.heap.size < w5.heap.size + 1 + 1 := by omega
  have Byl3 : w4.heap.size < w5.heap.size + 1 + 1 + 1 := by omega
  have By0 := Byc 0 _ rfl
  have By1 := Byc 1 _ rfl
  clear Byc
  go_wp2_with fail
  (with_reducible refine (Mul_at (by first | assumption | exact isU64_mk (by decide +kernel)) (by first | assumption | exact isU64_mk (by decide +kernel)) _).mono ?_)
  rintro e w6 ⟨rfl, hb⟩
  have Bx' : Box w6 (w3.heap.size) _ := Box.call hb (by repeat (first | with_reducible assumption | with_reducible apply Box.set10 | with_reducible apply Box.set20 | with_reducible apply Box.set21 | with_reducible apply Box.set40 | with_reducible apply Box.set41 | with_reducible apply Box.set42 | with_reducible apply Box.set43 | with_reducible apply Box.set50 | with_reducible apply Box.set51 | with_reducible apply Box.set52 | with_reducible apply Box.set53 | with_reducible apply Box.set54 | with_reducible apply Box.drew | (with_reducible apply Box.newAt; (try simp only [World.size_alloc, World.size_setCell, World.size_drew]); done) | with_reducible apply Box.alloc | (with_reducible apply Box.other; case hne => ((try simp only [World.size_alloc, World.size_setCell, World.size_drew]); omega))))
  have By' : Box w6 (w4.heap.size) _ := Box.call hb (by repeat (first | with_reducible assumption | with_reducible apply Box.set10 | with_reducible apply Box.set20 | with_reducible apply Box.set21 | with_reducible apply Box.set40 | with_reducible apply Box.set41 | with_reducible apply Box.set42 | with_reducible apply Box.set43 | with_reducible apply Box.set50 | with_reducible apply Box.set51 | with_reducible apply Box.set52 | with_reducible apply Box.set53 | with_reducible apply Box.set54 | with_reducible apply Box.drew | (with_reducible apply Box.newAt; (try simp only [World.size_alloc, World.size_setCell, World.size_drew]); done) | with_reducible apply Box.alloc | (with_reducible apply Box.other; case hne => ((try simp only [World.size_alloc, World.size_setCell, World.size_drew]); omega))))
  have hk' : Kept w.heap.size w w6 := Kept.step (by repeat (first | with_reducible exact hk | with_reducible exact Kept.refl _ | with_reducible refine Kept.alloc ?_ _ | with_reducible refine Kept.drew ?_ | with_reducible refine Kept.setCell ?_ (by simp only [World.size_alloc, World.size_setCell, World.size_drew]; omega) _)) hb
  clear hk
  clear Bxl1 Bxl2 Bxl3 Bxf Bx0 Bx1
  clear Byl1 Byl2 Byl3 Byf By0 By1
  clear Bx
  clear By
  have Bx := Bx'
  clear Bx'
  have By := By'
  clear By'
  have hk := hk'
  clear hk' hb
  have hz_w6 := hk.size
  have Bxc := Bx.cell
  have Bxl := Bx.lt
  have Bxf := Bx.free
  have Bxl1 : w3.heap.size < w6.heap.size + 1 := by omega
  have Bxl2 : w3.heap.size < w6.heap.size + 1 + 1 := by omega
  have Bxl3 : w3.heap.size < w6.heap.size + 1 + 1 + 1 := by omega
  have Bx0 := Bxc 0 _ rfl
  have Bx1 := Bxc 1 _ rfl
  clear Bxc
  have Byc := By.cell
  have Byl := By.lt
  have Byf := By.free
  have Byl1 : w4.heap.size < w6.heap.size + 1 := by omega
  have Byl2 : w4.heap.size < w6.heap.size + 1 + 1 := by omega
  have Byl3 : w4.heap.size < w6.heap.size + 1 + 1 + 1 := by omega
  have By0 := Byc 0 _ rfl
  have By1 := Byc 1 _ rfl
  clear Byc
  go_wp2_with fail
  (with_reducible refine (Mul_at (by first | assumption | exact isU64_mk (by decide +kernel)) (by first | assumption | exact isU64_mk (by decide +kernel)) _).mono ?_)
  rintro e w7 ⟨rfl, hb⟩
  have Bx' : Box w7 (w3.heap.size) _ := Box.call hb (by repeat (first | with_reducible assumption | with_reducible apply Box.set10 | with_reducible apply Box.set20 | with_reducible apply Box.set21 | with_reducible apply Box.set40 | with_reducible apply Box.set41 | with_reducible apply Box.set42 | with_reducible apply Box.set43 | with_reducible apply Box.set50 | with_reducible apply Box.set51 | with_reducible apply Box.set52 | with_reducible apply Box.set53 | with_reducible apply Box.set54 | with_reducible apply Box.drew | (with_reducible apply Box.newAt; (try simp only [World.size_alloc, World.size_setCell, World.size_drew]); done) | with_reducible apply Box.alloc | (with_reducible apply Box.other; case hne => ((try simp only [World.size_alloc, World.size_setCell, World.size_drew]); omega))))
  have By' : Box w7 (w4.heap.size) _ := Box.call hb (by repeat (first | with_reducible assumption | with_reducible apply Box.set10 | with_reducible apply Box.set20 | with_reducible apply Box.set21 | with_reducible apply Box.set40 | with_reducible apply Box.set41 | with_reducible apply Box.set42 | with_reducible apply Box.set43 | with_reducible apply Box.set50 | with_reducible apply Box.set51 | with_reducible apply Box.set52 | with_reducible apply Box.set53 | with_reducible apply Box.set54 | with_reducible apply Box.drew | (with_reducible apply Box.newAt; (try simp only [World.size_alloc, World.size_setCell, World.size_drew]); done) | with_reducible apply Box.alloc | (with_reducible apply Box.other; case hne => ((try simp only [World.size_alloc, World.size_setCell, World.size_drew]); omega))))
  have hk' : Kept w.heap.size w w7 := Kept.step (by repeat (first | with_reducible exact hk | with_reducible exact Kept.refl _ | with_reducible refine Kept.alloc ?_ _ | with_reducible refine Kept.drew ?_ | with_reducible refine Kept.setCell ?_ (by simp only [World.size_alloc, World.size_setCell, World.size_drew]; omega) _)) hb
  clear hk
  clear Bxl1 Bxl2 Bxl3 Bxf Bx0 Bx1
  clear Byl1 Byl2 Byl3 Byf By0 By1
  clear Bx
  clear By
  have Bx := Bx'
  clear Bx'
  have By := By'
  clear By'
  have hk := hk'
  clear hk' hb
  have hz_w7 := hk.size
  have Bxc := Bx.cell
  have Bxl := Bx.lt
  have Bxf := Bx.free
  have Bxl1 : w3.heap.size < w7.heap.size + 1 := by omega
  have Bxl2 : w3.heap.size < w7.heap.size + 1 + 1 := by omega
  have Bxl3 : w3.heap.size < w7.heap.size + 1 + 1 + 1 := by omega
  have Bx0 := Bxc 0 _ rfl
  have Bx1 := Bxc 1 _ rfl
  clear Bxc
  have Byc := By.cell
  have Byl := By.lt
  have Byf := By.free
  have Byl1 : w4.heap.size < w7.heap.size + 1 := by omega
  have Byl2 : w4.heap.size < w7.heap.size + 1 + 1 := by omega
  have Byl3 : w4.heap.size < w7.heap.size + 1 + 1 + 1 := by omega
  have By0 := Byc 0 _ rfl
  have By1 := Byc 1 _ rfl
  clear Byc
  go_wp2_with fail
  (with_reducible refine (Mul_at (by first | assumption | exact isU64_mk (by decide +kernel)) (by first | assumption | exact isU64_mk (by decide +kernel)) _).mono ?_)
  rintro e w8 ⟨rfl, hb⟩
  have Bx' : Box w8 (w3.heap.size) _ := Box.call hb (by repeat (first | with_reducible assumption | with_reducible apply Box.set10 | with_reducible apply Box.set20 | with_reducible apply Box.set21 | with_reducible apply Box.set40 | with_reducible apply Box.set41 | with_reducible apply Box.set42 | with_reducible apply Box.set43 | with_reducible apply Box.set50 | with_reducible apply Box.set51 | with_reducible apply Box.set52 | with_reducible apply Box.set53 | with_reducible apply Box.set54 | with_reducible apply Box.drew | (with_reducible apply Box.newAt; (try simp only [World.size_alloc, World.size_setCell, World.size_drew]); done) | with_reducible apply Box.alloc | (with_reducible apply Box.other; case hne => ((try simp only [World.size_alloc, World.size_setCell, World.size_drew]); omega))))
  have By' : Box w8 (w4.heap.size) _ := Box.call hb (by repeat (first | with_reducible assumption | with_reducible apply Box.set10 | with_reducible apply Box.set20 | with_reducible apply Box.set21 | with_reducible apply Box.set40 | with_reducible apply Box.set41 | with_reducible apply Box.set42 | with_reducible apply Box.set43 | with_reducible apply Box.set50 | with_reducible apply Box.set51 | with_reducible apply Box.set52 | with_reducible apply Box.set53 | with_reducible apply Box.set54 | with_reducible apply Box.drew | (with_reducible apply Box.newAt; (try simp only [World.size_alloc, World.size_setCell, World.size_drew]); done) | with_reducible apply Box.alloc | (with_reducible apply Box.other; case hne => ((try simp only [World.size_alloc, World.size_setCell, World.size_drew]); omega))))
  have hk' : Kept w.heap.size w w8 := Kept.step (by repeat (first | with_reducible exact hk | with_reducible exact Kept.refl _ | with_reducible refine Kept.alloc ?_ _ | with_reducible refine Kept.drew ?_ | with_reducible refine Kept.setCell ?_ (by simp only [World.size_alloc, World.size_setCell, World.size_drew]; omega) _)) hb
  clear hk
  clear Bxl1 Bxl2 Bxl3 Bxf Bx0 Bx1
  clear Byl1 Byl2 Byl3 Byf By0 By1
  clear Bx
  clear By
  have Bx := Bx'
  clear Bx'
  have By := By'
  clear By'
  have hk := hk'
  clear hk' hb
  have hz_w8 := hk.size
  have Bxc := Bx.cell
  have Bxl := Bx.lt
  have Bxf := Bx.free
  have Bxl1 : w3.heap.size < w8.heap.size + 1 := by omega
  have Bxl2 : w3.heap.size < w8.heap.size + 1 + 1 := by omega
  have Bxl3 : w3.heap.size < w8.heap.size + 1 + 1 + 1 := by omega
  have Bx0 := Bxc 0 _ rfl
  have Bx1 := Bxc 1 _ rfl
  clear Bxc
  have Byc := By.cell
  have Byl := By.lt
  have Byf := By.free
  have Byl1 : w4.heap.size < w8.heap.size + 1 := by omega
  have Byl2 : w4.heap.size < w8.heap.size + 1 + 1 := by omega
  have Byl3 : w4.heap.size < w8.heap.size + 1 + 1 + 1 := by omega
  have By0 := Byc 0 _ rfl
  have By1 := Byc 1 _ rfl
  clear Byc
  go_wp2_with fail
  (with_reducible refine (Zero_at (by first | (with_reducible refine IsBits.of ?_; first | assumption | exact add128_w _ _ | exact mulI_w (by first | assumption | exact isU64_mk (by decide +kernel)) (by first | assumption | exact isU64_mk (by decide +kernel))) | (with_reducible refine IsBits.val ?_ ?_ <;> first | assumption | exact u64_zero | exact limb_u64 _ _ | exact isU64_mk (by decide +kernel))) _).mono ?_)
  rintro e w9 ⟨rfl, hb⟩
  have Bx' : Box w9 (w3.heap.size) _ := Box.call hb (by repeat (first | with_reducible assumption | with_reducible apply Box.set10 | with_reducible apply Box.set20 | with_reducible apply Box.set21 | with_reducible apply Box.set40 | with_reducible apply Box.set41 | with_reducible apply Box.set42 | with_reducible apply Box.set43 | with_reducible apply Box.set50 | with_reducible apply Box.set51 | with_reducible apply Box.set52 | with_reducible apply Box.set53 | with_reducible apply Box.set54 | with_reducible apply Box.drew | (with_reducible apply Box.newAt; (try simp only [World.size_alloc, World.size_setCell, World.size_drew]); done) | with_reducible apply Box.alloc | (with_reducible apply Box.other; case hne => ((try simp only [World.size_alloc, World.size_setCell, World.size_drew]); omega))))
  have By' : Box w9 (w4.heap.size) _ := Box.call hb (by repeat (first | with_reducible assumption | with_reducible apply Box.set10 | with_reducible apply Box.set20 | with_reducible apply Box.set21 | with_reducible apply Box.set40 | with_reducible apply Box.set41 | with_reducible apply Box.set42 | with_reducible apply Box.set43 | with_reducible apply Box.set50 | with_reducible apply Box.set51 | with_reducible apply Box.set52 | with_reducible apply Box.set53 | with_reducible apply Box.set54 | with_reducible apply Box.drew | (with_reducible apply Box.newAt; (try simp only [World.size_alloc, World.size_setCell, World.size_drew]); done) | with_reducible apply Box.alloc | (with_reducible apply Box.other; case hne => ((try simp only [World.size_alloc, World.size_setCell, World.size_drew]); omega))))
  have hk' : Kept w.heap.size w w9 := Kept.step (by repeat (first | with_reducible exact hk | with_reducible exact Kept.refl _ | with_reducible refine Kept.alloc ?_ _ | with_reducible refine Kept.drew ?_ | with_reducible refine Kept.setCell ?_ (by simp only [World.size_alloc, World.size_setCell, World.size_drew]; omega) _)) hb
  clear hk
  clear Bxl1 Bxl2 Bxl3 Bxf Bx0 Bx1
  clear Byl1 Byl2 Byl3 Byf By0 By1
  clear Bx
  clear By
  have Bx := Bx'
  clear Bx'
  have By := By'
  clear By'
  have hk := hk'
  clear hk' hb
  have hz_w9 := hk.size
  have Bxc := Bx.cell
  have Bxl := Bx.lt
  have Bxf := Bx.free
  have Bxl1 : w3.heap.size < w9.heap.size + 1 := by omega
  have Bxl2 : w3.heap.size < w9.heap.size + 1 + 1 := by omega
  have Bxl3 : w3.heap.size < w9.heap.size + 1 + 1 + 1 := by omega
  have Bx0 := Bxc 0 _ rfl
  have Bx1 := Bxc 1 _ rfl
  clear Bxc
  have Byc := By.cell
  have Byl := By.lt
  have Byf := By.free
  have Byl1 : w4.heap.size < w9.heap.size + 1 := by omega
  have Byl2 : w4.heap.size < w9.heap.size + 1 + 1 := by omega
  have Byl3 : w4.heap.size < w9.heap.size + 1 + 1 + 1 := by omega
  have By0 := Byc 0 _ rfl
  have By1 := Byc 1 _ rfl
  clear Byc
  go_wp2_with fail
  (with_reducible refine (counts01_any _).mono ?_)
  rintro e w10 ⟨rfl, hb⟩
  have Bx' : Box w10 (w3.heap.size) _ := Box.call hb (by repeat (first | with_reducible assumption | with_reducible apply Box.set10 | with_reducible apply Box.set20 | with_reducible apply Box.set21 | with_reducible apply Box.set40 | with_reducible apply Box.set41 | with_reducible apply Box.set42 | with_reducible apply Box.set43 | with_reducible apply Box.set50 | with_reducible apply Box.set51 | with_reducible apply Box.set52 | with_reducible apply Box.set53 | with_reducible apply Box.set54 | with_reducible apply Box.drew | (with_reducible apply Box.newAt; (try simp only [World.size_alloc, World.size_setCell, World.size_drew]); done) | with_reducible apply Box.alloc | (with_reducible apply Box.other; case hne => ((try simp only [World.size_alloc, World.size_setCell, World.size_drew]); omega))))
  have By' : Box w10 (w4.heap.size) _ := Box.call hb (by repeat (first | with_reducible assumption | with_reducible apply Box.set10 | with_reducible apply Box.set20 | with_reducible apply Box.set21 | with_reducible apply Box.set40 | with_reducible apply Box.set41 | with_reducible apply Box.set42 | with_reducible apply Box.set43 | with_reducible apply Box.set50 | with_reducible apply Box.set51 | with_reducible apply Box.set52 | with_reducible apply Box.set53 | with_reducible apply Box.set54 | with_reducible apply Box.drew | (with_reducible apply Box.newAt; (try simp only [World.size_alloc, World.size_setCell, World.size_drew]); done) | with_reducible apply Box.alloc | (with_reducible apply Box.other; case hne => ((try simp only [World.size_alloc, World.size_setCell, World.size_drew]); omega))))
  have hk' : Kept w.heap.size w w10 := Kept.step (by repeat (first | with_reducible exact hk | with_reducible exact Kept.refl _ | with_reducible refine Kept.alloc ?_ _ | with_reducible refine Kept.drew ?_ | with_reducible refine Kept.setCell ?_ (by simp only [World.size_alloc, World.size_setCell, World.size_drew]; omega) _)) hb
  clear hk
  clear Bxl1 Bxl2 Bxl3 Bxf Bx0 Bx1
  clear Byl1 Byl2 Byl3 Byf By0 By1
  clear Bx
  clear By
  have Bx := Bx'
  clear Bx'
  have By := By'
  clear By'
  have hk := hk'
  clear hk' hb
  have hz_w10 := hk.size
  have Bxc := Bx.cell
  have Bxl := Bx.lt
  have Bxf := Bx.free
  have Bxl1 : w3.heap.size < w10.heap.size + 1 := by omega
  have Bxl2 : w3.heap.size < w10.heap.size + 1 + 1 := by omega
  have Bxl3 : w3.heap.size < w10.heap.size + 1 + 1 + 1 := by omega
  have Bx0 := Bxc 0 _ rfl
  have Bx1 := Bxc 1 _ rfl
  clear Bxc
  have Byc := By.cell
  have Byl := By.lt
  have Byf := By.free
  have Byl1 : w4.heap.size < w10.heap.size + 1 := by omega
  have Byl2 : w4.heap.size < w10.heap.size + 1 + 1 := by omega
  have Byl3 : w4.heap.size < w10.heap.size + 1 + 1 + 1 := by omega
  have By0 := Byc 0 _ rfl
  have By1 := Byc 1 _ rfl
  clear Byc
  go_wp2
  go_ret
  exact ⟨rfl, (by refine Kept.below ?_; repeat (first | with_reducible exact hk | with_reducible exact Kept.refl _ | with_reducible refine Kept.alloc ?_ _ | with_reducible refine Kept.drew ?_ | with_reducible refine Kept.setCell ?_ (by simp only [World.size_alloc, World.size_setCell, World.size_drew]; omega) _))⟩

set_option maxHeartbeats 4000000 in
theorem WordMul_over {a b c s : Int} (ha : U64 a) (hb : U64 b) (hc : U64 c) (hs : U64 s) (f0 : IntKind.u64.wrap (b + c) = s) (e : s + 2 ^ 64 = b + c) (w : World) :
    Calls Try.prog 11 #[.int .u64 a, .int .u64 b, .int .u64 c] w fun e w' => e = .returned (.bool true) ∧ Below w.heap.size w w' := by
  have hk := Kept.refl w
  have f5 := mulI_over ha hb hc hs e
  have f6 : s < b := by have := hc.hi; omega
  clear e
  have f1 := mulI_turn a b
  have f2 := (mulI_one ha).1
  have f3 := (mulI_one ha).2
  have f4 := mulI_zero a
  go_enter Try.func11, Try.ntmps11
  go_wp2_with fail
  (with_reducible refine (Mul_at (by first | assumption | exact isU64_mk (by decide +kernel)) (by first | assumption | exact isU64_mk (by decide +kernel)) _).mono ?_)
  rintro e w1 ⟨rfl, hb⟩
  have hk' : Kept w.heap.size w w1 := Kept.step (by repeat (first | with_reducible exact hk | with_reducible exact Kept.refl _ | with_reducible refine Kept.alloc ?_ _ | with_reducible refine Kept.drew ?_ | with_reducible refine Kept.setCell ?_ (by simp only [World.size_alloc, World.size_setCell, World.size_drew]; omega) _)) hb
  clear hk
  have hk := hk'
  clear hk' hb
  have hz_w1 := hk.size
  go_wp2_with fail
  (with_reducible refine (Mul_at (by first | assumption | exact isU64_mk (by decide +kernel)) (by first | assumption | exact isU64_mk (by decide +kernel)) _).mono ?_)
  rintro e w2 ⟨rfl, hb⟩
  have hk' : Kept w.heap.size w w2 := Kept.step (by repeat (first | with_reducible exact hk | with_reducible exact Kept.refl _ | with_reducible refine Kept.alloc ?_ _ | with_reducible refine Kept.drew ?_ | with_reducible refine Kept.setCell ?_ (by simp only [World.size_alloc, World.size_setCell, World.size_drew]; omega) _)) hb
  clear hk
  have hk := hk'
  clear hk' hb
  have hz_w2 := hk.size
  go_wp2_with fail
  (with_reducible refine (Add_at (by first | (with_reducible refine IsBits.of ?_; first | assumption | exact add128_w _ _ | exact mulI_w (by first | assumption | exact isU64_mk (by decide +kernel)) (by first | assumption | exact isU64_mk (by decide +kernel))) | (with_reducible refine IsBits.val ?_ ?_ <;> first | assumption | exact u64_zero | exact limb_u64 _ _ | exact isU64_mk (by decide +kernel))) (by first | (with_reducible refine IsBits.of ?_; first | assumption | exact add128_w _ _ | exact mulI_w (by first | assumption | exact isU64_mk (by decide +kernel)) (by first | assumption | exact isU64_mk (by decide +kernel))) | (with_reducible refine IsBits.val ?_ ?_ <;> first | assumption | exact u64_zero | exact limb_u64 _ _ | exact isU64_mk (by decide +kernel))) _).mono ?_)
  rintro e w3 ⟨rfl, hb⟩
  have hk' : Kept w.heap.size w w3 := Kept.step (by repeat (first | with_reducible exact hk | with_reducible exact Kept.refl _ | with_reducible refine Kept.alloc ?_ _ | with_reducible refine Kept.drew ?_ | with_reducible refine Kept.setCell ?_ (by simp only [World.size_alloc, World.size_setCell, World.size_drew]; omega) _)) hb
  clear hk
  have hk := hk'
  clear hk' hb
  have hz_w3 := hk.size
  go_wp2_with fail
  (with_reducible refine (Mul_at (by first | assumption | exact isU64_mk (by decide +kernel)) (by first | assumption | exact isU64_mk (by decide +kernel)) _).mono ?_)
  rintro e w4 ⟨rfl, hb⟩
  have Bx' : Box w4 (w3.heap.size) _ := Box.call hb (by repeat (first | with_reducible assumption | with_reducible apply Box.set10 | with_reducible apply Box.set20 | with_reducible apply Box.set21 | with_reducible apply Box.set40 | with_reducible apply Box.set41 | with_reducible apply Box.set42 | with_reducible apply Box.set43 | with_reducible apply Box.set50 | with_reducible apply Box.set51 | with_reducible apply Box.set52 | with_reducible apply Box.set53 | with_reducible apply Box.set54 | with_reducible apply Box.drew | (with_reducible apply Box.newAt; (try simp only [World.size_alloc, World.size_setCell, World.size_drew]); done) | with_reducible apply Box.alloc | (with_reducible apply Box.other; case hne => ((try simp only [World.size_alloc, World.size_setCell, World.size_drew]); omega))))
  have hk' : Kept w.heap.size w w4 := Kept.step (by repeat (first | with_reducible exact hk | with_reducible exact Kept.refl _ | with_reducible refine Kept.alloc ?_ _ | with_reducible refine Kept.drew ?_ | with_reducible refine Kept.setCell ?_ (by simp only [World.size_alloc, World.size_setCell, World.size_drew]; omega) _)) hb
  clear hk
  have Bx := Bx'
  clear Bx'
  have hk := hk'
  clear hk' hb
  have hz_w4 := hk.size
  have Bxc := Bx.cell
  have Bxl := Bx.lt
  have Bxf := Bx.free
  have Bxl1 : w3.heap.size < w4.heap.size + 1 := by omega
  have Bxl2 : w3.heap.size < w4.heap.size + 1 + 1 := by omega
  have Bxl3 : w3.heap.size < w4.heap.size + 1 + 1 + 1 := by omega
  have Bx0 := Bxc 0 _ rfl
  have Bx1 := Bxc 1 _ rfl
  clear Bxc
  go_wp2_with fail
  (with_reducible refine (Add_at (by first | (with_reducible refine IsBits.of ?_; first | assumption | exact add128_w _ _ | exact mulI_w (by first | assumption | exact isU64_mk (by decide +kernel)) (by first | assumption | exact isU64_mk (by decide +kernel))) | (with_reducible refine IsBits.val ?_ ?_ <;> first | assumption | exact u64_zero | exact limb_u64 _ _ | exact isU64_mk (by decide +kernel))) (by first | (with_reducible refine IsBits.of ?_; first | assumption | exact add128_w _ _ | exact mulI_w (by first | assumption | exact isU64_mk (by decide +kernel)) (by first | assumption | exact isU64_mk (by decide +kernel))) | (with_reducible refine IsBits.val ?_ ?_ <;> first | assumption | exact u64_zero | exact limb_u64 _ _ | exact isU64_mk (by decide +kernel))) _).mono ?_)
  rintro e w5 ⟨rfl, hb⟩
  have Bx' : Box w5 (w3.heap.size) _ := Box.call hb (by repeat (first | with_reducible assumption | with_reducible apply Box.set10 | with_reducible apply Box.set20 | with_reducible apply Box.set21 | with_reducible apply Box.set40 | with_reducible apply Box.set41 | with_reducible apply Box.set42 | with_reducible apply Box.set43 | with_reducible apply Box.set50 | with_reducible apply Box.set51 | with_reducible apply Box.set52 | with_reducible apply Box.set53 | with_reducible apply Box.set54 | with_reducible apply Box.drew | (with_reducible apply Box.newAt; (try simp only [World.size_alloc, World.size_setCell, World.size_drew]); done) | with_reducible apply Box.alloc | (with_reducible apply Box.other; case hne => ((try simp only [World.size_alloc, World.size_setCell, World.size_drew]); omega))))
  have By' : Box w5 (w4.heap.size) _ := Box.call hb (by repeat (first | with_reducible assumption | with_reducible apply Box.set10 | with_reducible apply Box.set20 | with_reducible apply Box.set21 | with_reducible apply Box.set40 | with_reducible apply Box.set41 | with_reducible apply Box.set42 | with_reducible apply Box.set43 | with_reducible apply Box.set50 | with_reducible apply Box.set51 | with_reducible apply Box.set52 | with_reducible apply Box.set53 | with_reducible apply Box.set54 | with_reducible apply Box.drew | (with_reducible apply Box.newAt; (try simp only [World.size_alloc, World.size_setCell, World.size_drew]); done) | with_reducible apply Box.alloc | (with_reducible apply Box.other; case hne => ((try simp only [World.size_alloc, World.size_setCell, World.size_drew]); omega))))
  have hk' : Kept w.heap.size w w5 := Kept.step (by repeat (first | with_reducible exact hk | with_reducible exact Kept.refl _ | with_reducible refine Kept.alloc ?_ _ | with_reducible refine Kept.drew ?_ | with_reducible refine Kept.setCell ?_ (by simp only [World.size_alloc, World.size_setCell, World.size_drew]; omega) _)) hb
  clear hk
  clear Bxl1 Bxl2 Bxl3 Bxf Bx0 Bx1
  clear Bx
  have Bx := Bx'
  clear Bx'
  have By := By'
  clear By'
  have hk := hk'
  clear hk' hb
  have hz_w5 := hk.size
  have Bxc := Bx.cell
  have Bxl := Bx.lt
  have Bxf := Bx.free
  have Bxl1 : w3.heap.size < w5.heap.size + 1 := by omega
  have Bxl2 : w3.heap.size < w5.heap.size + 1 + 1 := by omega
  have Bxl3 : w3.heap.size < w5.heap.size + 1 + 1 + 1 := by omega
  have Bx0 := Bxc 0 _ rfl
  have Bx1 := Bxc 1 _ rfl
  clear Bxc
  have Byc := By.cell
  have Byl := By.lt
  have Byf := By.free
  have Byl1 : w4.heap.size < w5.heap.size + 1 := by omega
  have Byl2 : w4.heap.size < w5.heap.size + 1 + 1 := by omega
  have Byl3 : w4.heap.size < w5.heap.size + 1 + 1 + 1 := by omega
  have By0 := Byc 0 _ rfl
  have By1 := Byc 1 _ rfl
  clear Byc
  go_wp2_with fail
  (with_reducible refine (Mul_at (by first | assumption | exact isU64_mk (by decide +kernel)) (by first | assumption | exact isU64_mk (by decide +kernel)) _).mono ?_)
  rintro e w6 ⟨rfl, hb⟩
  have Bx' : Box w6 (w3.heap.size) _ := Box.call hb (by repeat (first | with_reducible assumption | with_reducible apply Box.set10 | with_reducible apply Box.set20 | with_reducible apply Box.set21 | with_reducible apply Box.set40 | with_reducible apply Box.set41 | with_reducible apply Box.set42 | with_reducible apply Box.set43 | with_reducible apply Box.set50 | with_reducible apply Box.set51 | with_reducible apply Box.set52 | with_reducible apply Box.set53 | with_reducible apply Box.set54 | with_reducible apply Box.drew | (with_reducible apply Box.newAt; (try simp only [World.size_alloc, World.size_setCell, World.size_drew]); done) | with_reducible apply Box.alloc | (with_reducible apply Box.other; case hne => ((try simp only [World.size_alloc, World.size_setCell, World.size_drew]); omega))))
  have By' : Box w6 (w4.heap.size) _ := Box.call hb (by repeat (first | with_reducible assumption | with_reducible apply Box.set10 | with_reducible apply Box.set20 | with_reducible apply Box.set21 | with_reducible apply Box.set40 | with_reducible apply Box.set41 | with_reducible apply Box.set42 | with_reducible apply Box.set43 | with_reducible apply Box.set50 | with_reducible apply Box.set51 | with_reducible apply Box.set52 | with_reducible apply Box.set53 | with_reducible apply Box.set54 | with_reducible apply Box.drew | (with_reducible apply Box.newAt; (try simp only [World.size_alloc, World.size_setCell, World.size_drew]); done) | with_reducible apply Box.alloc | (with_reducible apply Box.other; case hne => ((try simp only [World.size_alloc, World.size_setCell, World.size_drew]); omega))))
  have hk' : Kept w.heap.size w w6 := Kept.step (by repeat (first | with_reducible exact hk | with_reducible exact Kept.refl _ | with_reducible refine Kept.alloc ?_ _ | with_reducible refine Kept.drew ?_ | with_reducible refine Kept.setCell ?_ (by simp only [World.size_alloc, World.size_setCell, World.size_drew]; omega) _)) hb
  clear hk
  clear Bxl1 Bxl2 Bxl3 Bxf Bx0 Bx1
  clear Byl1 Byl2 Byl3 Byf By0 By1
  clear Bx
  clear By
  have Bx := Bx'
  clear Bx'
  have By := By'
  clear By'
  have hk := hk'
  clear hk' hb
  have hz_w6 := hk.size
  have Bxc := Bx.cell
  have Bxl := Bx.lt
  have Bxf := Bx.free
  have Bxl1 : w3.heap.size < w6.heap.size + 1 := by omega
  have Bxl2 : w3.heap.size < w6.heap.size + 1 + 1 := by omega
  have Bxl3 : w3.heap.size < w6.heap.size + 1 + 1 + 1 := by omega
  have Bx0 := Bxc 0 _ rfl
  have Bx1 := Bxc 1 _ rfl
  clear Bxc
  have Byc := By.cell
  have Byl := By.lt
  have Byf := By.free
  have Byl1 : w4.heap.size < w6.heap.size + 1 := by omega
  have Byl2 : w4.heap.size < w6.heap.size + 1 + 1 := by omega
  have Byl3 : w4.heap.size < w6.heap.size + 1 + 1 + 1 := by omega
  have By0 := Byc 0 _ rfl
  have By1 := Byc 1 _ rfl
  clear Byc
  go_wp2_with fail
  (with_reducible refine (Mul_at (by first | assumption | exact isU64_mk (by decide +kernel)) (by first | assumption | exact isU64_mk (by decide +kernel)) _).mono ?_)
  rintro e w7 ⟨rfl, hb⟩
  have Bx' : Box w7 (w3.heap.size) _ := Box.call hb (by repeat (first | with_reducible assumption | with_reducible apply Box.set10 | with_reducible apply Box.set20 | with_reducible apply Box.set21 | with_reducible apply Box.set40 | with_reducible apply Box.set41 | with_reducible apply Box.set42 | with_reducible apply Box.set43 | with_reducible apply Box.set50 | with_reducible apply Box.set51 | with_reducible apply Box.set52 | with_reducible apply Box.set53 | with_reducible apply Box.set54 | with_reducible apply Box.drew | (with_reducible apply Box.newAt; (try simp only [World.size_alloc, World.size_setCell, World.size_drew]); done) | with_reducible apply Box.alloc | (with_reducible apply Box.other; case hne => ((try simp only [World.size_alloc, World.size_setCell, World.size_drew]); omega))))
  have By' : Box w7 (w4.heap.size) _ := Box.call hb (by repeat (first | with_reducible assumption | with_reducible apply Box.set10 | with_reducible apply Box.set20 | with_reducible apply Box.set21 | with_reducible apply Box.set40 | with_reducible apply Box.set41 | with_reducible apply Box.set42 | with_reducible apply Box.set43 | with_reducible apply Box.set50 | with_reducible apply Box.set51 | with_reducible apply Box.set52 | with_reducible apply Box.set53 | with_reducible apply Box.set54 | with_reducible apply Box.drew | (with_reducible apply Box.newAt; (try simp only [World.size_alloc, World.size_setCell, World.size_drew]); done) | with_reducible apply Box.alloc | (with_reducible apply Box.other; case hne => ((try simp only [World.size_alloc, World.size_setCell, World.size_drew]); omega))))
  have hk' : Kept w.heap.size w w7 := Kept.step (by repeat (first | with_reducible exact hk | with_reducible exact Kept.refl _ | with_reducible refine Kept.alloc ?_ _ | with_reducible refine Kept.drew ?_ | with_reducible refine Kept.setCell ?_ (by simp only [World.size_alloc, World.size_setCell, World.size_drew]; omega) _)) hb
  clear hk
  clear Bxl1 Bxl2 Bxl3 Bxf Bx0 Bx1
  clear Byl1 Byl2 Byl3 Byf By0 By1
  clear Bx
  clear By
  have Bx := Bx'
  clear Bx'
  have By := By'
  clear By'
  have hk := hk'
  clear hk' hb
  have hz_w7 := hk.size
  have Bxc := Bx.cell
  have Bxl := Bx.lt
  have Bxf := Bx.free
  have Bxl1 : w3.heap.size < w7.heap.size + 1 := by omega
  have Bxl2 : w3.heap.size < w7.heap.size + 1 + 1 := by omega
  have Bxl3 : w3.heap.size < w7.heap.size + 1 + 1 + 1 := by omega
  have Bx0 := Bxc 0 _ rfl
  have Bx1 := Bxc 1 _ rfl
  clear Bxc
  have Byc := By.cell
  have Byl := By.lt
  have Byf := By.free
  have Byl1 : w4.heap.size < w7.heap.size + 1 := by omega
  have Byl2 : w4.heap.size < w7.heap.size + 1 + 1 := by omega
  have Byl3 : w4.heap.size < w7.heap.size + 1 + 1 + 1 := by omega
  have By0 := Byc 0 _ rfl
  have By1 := Byc 1 _ rfl
  clear Byc
  go_wp2_with fail
  (with_reducible refine (Mul_at (by first | assumption | exact isU64_mk (by decide +kernel)) (by first | assumption | exact isU64_mk (by decide +kernel)) _).mono ?_)
  rintro e w8 ⟨rfl, hb⟩
  have Bx' : Box w8 (w3.heap.size) _ := Box.call hb (by repeat (first | with_reducible assumption | with_reducible apply Box.set10 | with_reducible apply Box.set20 | with_reducible apply Box.set21 | with_reducible apply Box.set40 | with_reducible apply Box.set41 | with_reducible apply Box.set42 | with_reducible apply Box.set43 | with_reducible apply Box.set50 | with_reducible apply Box.set51 | with_reducible apply Box.set52 | with_reducible apply Box.set53 | with_reducible apply Box.set54 | with_reducible apply Box.drew | (with_reducible apply Box.newAt; (try simp only [World.size_alloc, World.size_setCell, World.size_drew]); done) | with_reducible apply Box.alloc | (with_reducible apply Box.other; case hne => ((try simp only [World.size_alloc, World.size_setCell, World.size_drew]); omega))))
  have By' : Box w8 (w4.heap.size) _ := Box.call hb (by repeat (first | with_reducible assumption | with_reducible apply Box.set10 | with_reducible apply Box.set20 | with_reducible apply Box.set21 | with_reducible apply Box.set40 | with_reducible apply Box.set41 | with_reducible apply Box.set42 | with_reducible apply Box.set43 | with_reducible apply Box.set50 | with_reducible apply Box.set51 | with_reducible apply Box.set52 | with_reducible apply Box.set53 | with_reducible apply Box.set54 | with_reducible apply Box.drew | (with_reducible apply Box.newAt; (try simp only [World.size_alloc, World.size_setCell, World.size_drew]); done) | with_reducible apply Box.alloc | (with_reducible apply Box.other; case hne => ((try simp only [World.size_alloc, World.size_setCell, World.size_drew]); omega))))
  have hk' : Kept w.heap.size w w8 := Kept.step (by repeat (first | with_reducible exact hk | with_reducible exact Kept.refl _ | with_reducible refine Kept.alloc ?_ _ | with_reducible refine Kept.drew ?_ | with_reducible refine Kept.setCell ?_ (by simp only [World.size_alloc, World.size_setCell, World.size_drew]; omega) _)) hb
  clear hk
  clear Bxl1 Bxl2 Bxl3 Bxf Bx0 Bx1
  clear Byl1 Byl2 Byl3 Byf By0 By1
  clear Bx
  clear By
  have Bx := Bx'
  clear Bx'
  have By := By'
  clear By'
  have hk := hk'
  clear hk' hb
  have hz_w8 := hk.size
  have Bxc := Bx.cell
  have Bxl := Bx.lt
  have Bxf := Bx.free
  have Bxl1 : w3.heap.size < w8.heap.size + 1 := by omega
  have Bxl2 : w3.heap.size < w8.heap.size + 1 + 1 := by omega
  have Bxl3 : w3.heap.size < w8.heap.size + 1 + 1 + 1 := by omega
  have Bx0 := Bxc 0 _ rfl
  have Bx1 := Bxc 1 _ rfl
  clear Bxc
  have Byc := By.cell
  have Byl := By.lt
  have Byf := By.free
  have Byl1 : w4.heap.size < w8.heap.size + 1 := by omega
  have Byl2 : w4.heap.size < w8.heap.size + 1 + 1 := by omega
  have Byl3 : w4.heap.size < w8.heap.size + 1 + 1 + 1 := by omega
  have By0 := Byc 0 _ rfl
  have By1 := Byc 1 _ rfl
  clear Byc
  go_wp2_with fail
  (with_reducible refine (Mul_at (by first | assumption | exact isU64_mk (by decide +kernel)) (by first | assumption | exact isU64_mk (by decide +kernel)) _).mono ?_)
  rintro e w9 ⟨rfl, hb⟩
  have Bx' : Box w9 (w3.heap.size) _ := Box.call hb (by repeat (first | with_reducible assumption | with_reducible apply Box.set10 | with_reducible apply Box.set20 | with_reducible apply Box.set21 | with_reducible apply Box.set40 | with_reducible apply Box.set41 | with_reducible apply Box.set42 | with_reducible apply Box.set43 | with_reducible apply Box.set50 | with_reducible apply Box.set51 | with_reducible apply Box.set52 | with_reducible apply Box.set53 | with_reducible apply Box.set54 | with_reducible apply Box.drew | (with_reducible apply Box.newAt; (try simp only [World.size_alloc, World.size_setCell, World.size_drew]); done) | with_reducible apply Box.alloc | (with_reducible apply Box.other; case hne => ((try simp only [World.size_alloc, World.size_setCell, World.size_drew]); omega))))
  have By' : Box w9 (w4.heap.size) _ := Box.call hb (by repeat (first | with_reducible assumption | with_reducible apply Box.set10 | with_reducible apply Box.set20 | with_reducible apply Box.set21 | with_reducible apply Box.set40 | with_reducible apply Box.set41 | with_reducible apply Box.set42 | with_reducible apply Box.set43 | with_reducible apply Box.set50 | with_reducible apply Box.set51 | with_reducible apply Box.set52 | with_reducible apply Box.set53 | with_reducible apply Box.set54 | with_reducible apply Box.drew | (with_reducible apply Box.newAt; (try simp only [World.size_alloc, World.size_setCell, World.size_drew]); done) | with_reducible apply Box.alloc | (with_reducible apply Box.other; case hne => ((try simp only [World.size_alloc, World.size_setCell, World.size_drew]); omega))))
  have hk' : Kept w.heap.size w w9 := Kept.step (by repeat (first | with_reducible exact hk | with_reducible exact Kept.refl _ | with_reducible refine Kept.alloc ?_ _ | with_reducible refine Kept.drew ?_ | with_reducible refine Kept.setCell ?_ (by simp only [World.size_alloc, World.size_setCell, World.size_drew]; omega) _)) hb
  clear hk
  clear Bxl1 Bxl2 Bxl3 Bxf Bx0 Bx1
  clear Byl1 Byl2 Byl3 Byf By0 By1
  clear Bx
  clear By
  have Bx := Bx'
  clear Bx'
  have By := By'
  clear By'
  have hk := hk'
  clear hk' hb
  have hz_w9 := hk.size
  have Bxc := Bx.cell
  have Bxl := Bx.lt
  have Bxf := Bx.free
  have Bxl1 : w3.heap.size < w9.heap.size + 1 := by omega
  have Bxl2 : w3.heap.size < w9.heap.size + 1 + 1 := by omega
  have Bxl3 : w3.heap.size < w9.heap.size + 1 + 1 + 1 := by omega
  have Bx0 := Bxc 0 _ rfl
  have Bx1 := Bxc 1 _ rfl
  clear Bxc
  have Byc := By.cell
  have Byl := By.lt
  have Byf := By.free
  have Byl1 : w4.heap.size < w9.heap.size + 1 := by omega
  have Byl2 : w4.heap.size < w9.heap.size + 1 + 1 := by omega
  have Byl3 : w4.heap.size < w9.heap.size + 1 + 1 + 1 := by omega
  have By0 := Byc 0 _ rfl
  have By1 := Byc 1 _ rfl
  clear Byc
  go_wp2_with fail
  (with_reducible refine (Zero_at (by first | (with_reducible refine IsBits.of ?_; first | assumption | exact add128_w _ _ | exact mulI_w (by first | assumption | exact isU64_mk (by decide +kernel)) (by first | assumption | exact isU64_mk (by decide +kernel))) | (with_reducible refine IsBits.val ?_ ?_ <;> first | assumption | exact u64_zero | exact limb_u64 _ _ | exact isU64_mk (by decide +kernel))) _).mono ?_)
  rintro e w10 ⟨rfl, hb⟩
  have Bx' : Box w10 (w3.heap.size) _ := Box.call hb (by repeat (first | with_reducible assumption | with_reducible apply Box.set10 | with_reducible apply Box.set20 | with_reducible apply Box.set21 | with_reducible apply Box.set40 | with_reducible apply Box.set41 | with_reducible apply Box.set42 | with_reducible apply Box.set43 | with_reducible apply Box.set50 | with_reducible apply Box.set51 | with_reducible apply Box.set52 | with_reducible apply Box.set53 | with_reducible apply Box.set54 | with_reducible apply Box.drew | (with_reducible apply Box.newAt; (try simp only [World.size_alloc, World.size_setCell, World.size_drew]); done) | with_reducible apply Box.alloc | (with_reducible apply Box.other; case hne => ((try simp only [World.size_alloc, World.size_setCell, World.size_drew]); omega))))
  have By' : Box w10 (w4.heap.size) _ := Box.call hb (by repeat (first | with_reducible assumption | with_reducible apply Box.set10 | with_reducible apply Box.set20 | with_reducible apply Box.set21 | with_reducible apply Box.set40 | with_reducible apply Box.set41 | with_reducible apply Box.set42 | with_reducible apply Box.set43 | with_reducible apply Box.set50 | with_reducible apply Box.set51 | with_reducible apply Box.set52 | with_reducible apply Box.set53 | with_reducible apply Box.set54 | with_reducible apply Box.drew | (with_reducible apply Box.newAt; (try simp only [World.size_alloc, World.size_setCell, World.size_drew]); done) | with_reducible apply Box.alloc | (with_reducible apply Box.other; case hne => ((try simp only [World.size_alloc, World.size_setCell, World.size_drew]); omega))))
  have hk' : Kept w.heap.size w w10 := Kept.step (by repeat (first | with_reducible exact hk | with_reducible exact Kept.refl _ | with_reducible refine Kept.alloc ?_ _ | with_reducible refine Kept.drew ?_ | with_reducible refine Kept.setCell ?_ (by simp only [World.size_alloc, World.size_setCell, World.size_drew]; omega) _)) hb
  clear hk
  clear Bxl1 Bxl2 Bxl3 Bxf Bx0 Bx1
  clear Byl1 Byl2 Byl3 Byf By0 By1
  clear Bx
  clear By
  have Bx := Bx'
  clear Bx'
  have By := By'
  clear By'
  have hk := hk'
  clear hk' hb
  have hz_w10 := hk.size
  have Bxc := Bx.cell
  have Bxl := Bx.lt
  have Bxf := Bx.free
  have Bxl1 : w3.heap.size < w10.heap.size + 1 := by omega
  have Bxl2 : w3.heap.size < w10.heap.size + 1 + 1 := by omega
  have Bxl3 : w3.heap.size < w10.heap.size + 1 + 1 + 1 := by omega
  have Bx0 := Bxc 0 _ rfl
  have Bx1 := Bxc 1 _ rfl
  clear Bxc
  have Byc := By.cell
  have Byl := By.lt
  have Byf := By.free
  have Byl1 : w4.heap.size < w10.heap.size + 1 := by omega
  have Byl2 : w4.heap.size < w10.heap.size + 1 + 1 := by omega
  have Byl3 : w4.heap.size < w10.heap.size + 1 + 1 + 1 := by omega
  have By0 := Byc 0 _ rfl
  have By1 := Byc 1 _ rfl
  clear Byc
  go_wp2_with fail
  (with_reducible refine (counts01_any _).mono ?_)
  rintro e w11 ⟨rfl, hb⟩
  have Bx' : Box w11 (w3.heap.size) _ := Box.call hb (by repeat (first | with_reducible assumption | with_reducible apply Box.set10 | with_reducible apply Box.set20 | with_reducible apply Box.set21 | with_reducible apply Box.set40 | with_reducible apply Box.set41 | with_reducible apply Box.set42 | with_reducible apply Box.set43 | with_reducible apply Box.set50 | with_reducible apply Box.set51 | with_reducible apply Box.set52 | with_reducible apply Box.set53 | with_reducible apply Box.set54 | with_reducible apply Box.drew | (with_reducible apply Box.newAt; (try simp only [World.size_alloc, World.size_setCell, World.size_drew]); done) | with_reducible apply Box.alloc | (with_reducible apply Box.other; case hne => ((try simp only [World.size_alloc, World.size_setCell, World.size_drew]); omega))))
  have By' : Box w11 (w4.heap.size) _ := Box.call hb (by repeat (first | with_reducible assumption | with_reducible apply Box.set10 | with_reducible apply Box.set20 | with_reducible apply Box.set21 | with_reducible apply Box.set40 | with_reducible apply Box.set41 | with_reducible apply Box.set42 | with_reducible apply Box.set43 | with_reducible apply Box.set50 | with_reducible apply Box.set51 | with_reducible apply Box.set52 | with_reducible apply Box.set53 | with_reducible apply Box.set54 | with_reducible apply Box.drew | (with_reducible apply Box.newAt; (try simp only [World.size_alloc, World.size_setCell, World.size_drew]); done) | with_reducible apply Box.alloc | (with_reducible apply Box.other; case hne => ((try simp only [World.size_alloc, World.size_setCell, World.size_drew]); omega))))
  have hk' : Kept w.heap.size w w11 := Kept.step (by repeat (first | with_reducible exact hk | with_reducible exact Kept.refl _ | with_reducible refine Kept.alloc ?_ _ | with_reducible refine Kept.drew ?_ | with_reducible refine Kept.setCell ?_ (by simp only [World.size_alloc, World.size_setCell, World.size_drew]; omega) _)) hb
  clear hk
  clear Bxl1 Bxl2 Bxl3 Bxf Bx0 Bx1
  clear Byl1 Byl2 Byl3 Byf By0 By1
  clear Bx
  clear By
  have Bx := Bx'
  clear Bx'
  have By := By'
  clear By'
  have hk := hk'
  clear hk' hb
  have hz_w11 := hk.size
  have Bxc := Bx.cell
  have Bxl := Bx.lt
  have Bxf := Bx.free
  have Bxl1 : w3.heap.size < w11.heap.size + 1 := by omega
  have Bxl2 : w3.heap.size < w11.heap.size + 1 + 1 := by omega
  have Bxl3 : w3.heap.size < w11.heap.size + 1 + 1 + 1 := by omega
  have Bx0 := Bxc 0 _ rfl
  have Bx1 := Bxc 1 _ rfl
  clear Bxc
  have Byc := By.cell
  have Byl := By.lt
  have Byf := By.free
  have Byl1 : w4.heap.size < w11.heap.size + 1 := by omega
  have Byl2 : w4.heap.size < w11.heap.size + 1 + 1 := by omega
  have Byl3 : w4.heap.size < w11.heap.size + 1 + 1 + 1 := by omega
  have By0 := Byc 0 _ rfl
  have By1 := Byc 1 _ rfl
  clear Byc
  go_wp2
  go_ret
  exact ⟨rfl, (by refine Kept.below ?_; repeat (first | with_reducible exact hk | with_reducible exact Kept.refl _ | with_reducible refine Kept.alloc ?_ _ | with_reducible refine Kept.drew ?_ | with_reducible refine Kept.setCell ?_ (by simp only [World.size_alloc, World.size_setCell, World.size_drew]; omega) _))⟩

theorem WordMul_walk {a b c : Int} (ha : U64 a) (hb : U64 b) (hc : U64 c) (w : World) :
    Calls Try.prog 11 #[.int .u64 a, .int .u64 b, .int .u64 c] w fun e w' => e = .returned (.bool true) ∧ Below w.heap.size w w' := by
  have := ha.lo; have := ha.hi; have := hb.lo; have := hb.hi; have := hc.lo; have := hc.hi
  by_cases h : b + c < 2 ^ 64
  · exact WordMul_no ha hb hc (s := b + c) ⟨by omega, h⟩ (by rw [wrap_u64_mod]; omega) rfl w
  · exact WordMul_over ha hb hc (s := b + c - 2 ^ 64) ⟨by omega, by omega⟩ (by rw [wrap_u64_mod]; omega) (by omega) w
end Go.Proofs.Ytohlhmicolnmbaa
