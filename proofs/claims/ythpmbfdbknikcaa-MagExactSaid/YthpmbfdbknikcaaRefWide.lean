/- The references' numbers out of 256 bits, and into them: contracts. -/
import Derived.Test.YthpmbfdbknikcaaRefAdd
import Derived.Deep.RegionHeld3
import Derived.LoopN
set_option linter.unusedVariables false
set_option linter.unusedSimpArgs false
namespace Go.Proofs.Ythpmbfdbknikcaa
open Go.RowKit

theorem limb_digs (i A : Nat) : ∃ y : Nat, limb i A = y ∧ y < 2 ^ 64 ∧ y % 2 ^ 32 = dig (2 * i) A ∧ y / 2 ^ 32 = dig (2 * i + 1) A := by
  refine ⟨A / 2 ^ (64 * i) % 2 ^ 64, limb_nat i A, Nat.mod_lt _ (by omega), ?_, ?_⟩
  · unfold dig; rw [show 32 * (2 * i) = 64 * i by omega]; omega
  · unfold dig; rw [show 32 * (2 * i + 1) = 64 * i + 32 by omega, Nat.pow_add, ← Nat.div_div_eq_div_mul]
    generalize A / 2 ^ (64 * i) = q
    omega
theorem cell_new2 {wr : World} {T : TypeId} {v0 v1 : Value} {d0 d1 : Nat} (h0 : v0 = dv d0) (h1 : v1 = dv d1) : ∀ j d, [d0, d1][j]? = some d → (wr.alloc (.cells #[v0, v1] T)).cell? ⟨wr.heap.size, j, none⟩ = some (dv d) := fun j d hj => by
  subst h0; subst h1
  match j, hj with
  | 0, hj => cases hj; simp
  | 1, hj => cases hj; simp
  | j + 2, hj => cases hj
theorem cell_new2d {wr : World} {T : TypeId} (d0 d1 : Nat) : ∀ j d, [d0, d1][j]? = some d → (wr.alloc (.cells #[.int .u32 (d0 : Int), .int .u32 (d1 : Int)] T)).drew.cell? ⟨wr.heap.size, j, none⟩ = some (dv d) := fun j d hj => cell_new2 (v0 := dv d0) (v1 := dv d1) rfl rfl j d hj
theorem wrap_u32_nat (x : Int) (d : Nat) (h : x % 4294967296 = (d : Int)) : IntKind.u32.wrap x = d := by
  unfold IntKind.wrap
  simp [IntKind.signed, IntKind.bits]; exact h
set_option maxRecDepth 100000 in
set_option maxHeartbeats 4000000 in
theorem refWide_any {A : Nat} (hA : W256 A) (w : World) :
    Calls Try.prog 13 #[wideV A] w fun e w' => ∃ v, e = .returned v ∧ IsN w' v A ∧ Below w.heap.size w w' := by
  go_enter Try.func13, Try.ntmps13
  go_wp2
  go_loopw [3, 4] (fun v i wr => ∃ (k : Nat) (u : Value), u = v ∧ k ≤ 4 ∧ i = .int .i64 k ∧ OwnN (w.heap.size + 1) wr u (digsTo A (2 * k)) ∧ Below (w.heap.size + 1) (w.alloc (.cells #[.int .u64 (limb 0 A), .int .u64 (limb 1 A), .int .u64 (limb 2 A), .int .u64 (limb 3 A)] 26)) wr) (fun _ i _ => 4 - (intOf i).toNat)
  case atStart => exact ⟨0, _, rfl, by omega, rfl, OwnN.nil _ _, Below.refl _ _⟩
  case round =>
    obtain ⟨k, u, rfl, hk, rfl, hown, hbel⟩ := hrel
    have hfour : ∀ j, j < 4 → wr.cell? ⟨w.heap.size, j, none⟩ = some (.int .u64 (limb j A)) := fun j hj => by
      refine (hbel.cell (p := ⟨w.heap.size, j, none⟩) (by simp)).trans ?_
      rcases (by omega : j = 0 ∨ j = 1 ∨ j = 2 ∨ j = 3) with rfl | rfl | rfl | rfl <;> simp
    have HO := Lib.hid hown
    have HB := Lib.hid hbel
    have hwz := hbel.size
    simp only [World.size_alloc] at hwz
    clear hown hbel
    by_cases h4 : k < 4
    · have ck := hfour k h4
      obtain ⟨y, hy, y1, y2, y3⟩ := limb_digs k A
      rw [hy] at ck
      have HY := Lib.hid (And.intro y2 y3)
      have b0 : (0 : Int) ≤ (k : Int) := by omega
      have b1 : (k : Int) < 4 := by omega
      have e0 := wrap_u32_nat (y : Int) (y % 2 ^ 32) (by omega)
      have e1 := wrap_u32_nat ((y : Int) / 4294967296) (y / 2 ^ 32) (by omega)
      clear hfour hy y2 y3
      go_wp2
      go_region_held3 (fun w' => w'.cell? ⟨w.heap.size, k, none⟩ = some (.int .u64 (y : Int))) (first | go_keep | ((refine (Below.cell (p := ⟨w.heap.size, k, none⟩) (by assumption) (by simp)).trans ?_); go_simp; done))
        ((refine step_app (by rfl) _ _ (by rfl) (w.heap.size + 1) (by rfl) ((HO.out.alloc _).drew) wr.heap.size [y % 2 ^ 32, y / 2 ^ 32] 2 rfl (by rfl) (fun d hd => by simp only [List.mem_cons, List.not_mem_nil, or_false] at hd; rcases hd with rfl | rfl <;> omega) (cell_new2d _ _) (by rw [digsTo_length]; simp; omega) (by simp; omega) ?_; intro v' w' hown' hb'))
      have HO' := Lib.hid hown'
      have HB' := Lib.hid hb'
      clear hown' hb'
      go_wp2
      go_roundw
      case rel => exact ⟨k + 1, _, rfl, by omega, by go_num, by
        have := HO'.out
        rw [HY.out.1, HY.out.2] at this
        rw [show 2 * (k + 1) = 2 * k + 1 + 1 by omega, digsTo_succ, digsTo_succ, List.append_assoc]
        exact this, (HB.out.alloc (by omega) _).drew.trans HB'.out⟩
      case measure => simp [intOf]; omega
    · obtain rfl : k = 4 := by omega
      have hA2 := hA.lt
      have HS := Lib.hid (show valL (digsTo A (2 * 4)) = A by rw [valL_digsTo]; exact Nat.mod_eq_of_lt hA2)
      clear hA2
      go_wp2_with fail
      refine (Trim_any _ HO.out.reads (by rw [digsTo_length]; omega)).mono ?_
      rintro e w' ⟨v2, rfl, hN, rfl⟩
      go_wp2
      go_ret
      exact ⟨v2, rfl, by rw [HS.out] at hN; exact hN, ((Below.refl _ _).alloc (Nat.le_refl _) _).trans (HB.out.mono (by omega))⟩
end Go.Proofs.Ythpmbfdbknikcaa
