/- The references' order: contract. -/
import Derived.Test.YthpmbfdbknikcaaRefAdd
import Derived.Deep.QuietTactic
import Derived.BigQuiet
set_option linter.unusedVariables false
set_option linter.unusedSimpArgs false
namespace Go.Proofs.Ythpmbfdbknikcaa
open Go.RowKit

theorem below_drewN {B : Nat} {a w : World} (h : Below B a w) (n : Nat) : Below B a (w.drewN n) := ⟨h.os, h.tape, h.output, h.size, h.block⟩
set_option maxRecDepth 100000 in
set_option maxHeartbeats 4000000 in
theorem refCmp_any {x y : Value} {A B : Nat} (w : World) (hx : IsN w x A) (hy : IsN w y B) (la : lenN A ≤ 4096) (lb : lenN B ≤ 4096) :
    Calls Try.prog 30 #[x, y] w fun e w' => e = .returned (.int .i64 (cmpN A B)) ∧ Below w.heap.size w w' := by
  have hx' := hx
  have hy' := hy
  obtain ⟨ax, cx, rfl, hcx, hrx⟩ := hx.open
  obtain ⟨ay, cy, rfl, hcy, hry⟩ := hy.open
  have HX := Lib.hid hx'
  have HY := Lib.hid hy'
  clear hrx hry hx hy hx' hy' hcx hcy
  rcases Nat.lt_trichotomy (lenN A) (lenN B) with h | h | h
  · have HR := Lib.hid (cmp_lt (cmp_len h))
    have hne : ¬ lenN A = lenN B := by omega
    go_enter Try.func30, Try.ntmps30
    go_wp2
    go_ret
    exact ⟨ret_int HR.out.symm, Below.refl _ _⟩
  · have HE := Lib.hid h
    have h1 : lenN A ≤ lenN B := by omega
    go_enter Try.func30, Try.ntmps30
    go_wp2
    go_loopw [5] (fun i wr => ∃ (k : Nat) (z : Int), k ≤ lenN A ∧ k ≤ lenN B ∧ i = .int .i64 z ∧ z = k - 1 ∧ Hid (A / 2 ^ (32 * k) = B / 2 ^ (32 * k)) ∧ Below w.heap.size w wr) (fun i _ => (intOf i + 1).toNat)
    case atStart => exact ⟨lenN A, _, by omega, by omega, rfl, by omega, Lib.hid (by rw [div_top (Nat.le_refl _), HE.out, div_top (Nat.le_refl _)]), Below.refl _ _⟩
    case round =>
      obtain ⟨k, z, hk, hkb, rfl, hz, HV, hbel⟩ := hrel
      have HB := Lib.hid hbel
      clear hbel
      rcases k with _ | k
      · have HR := Lib.hid (show cmpN A B = 0 by
          have e := HV.out
          simp at e
          rw [e]; exact cmp_eq B)
        obtain rfl : z = -1 := by omega
        clear hz
        go_wp2
        go_ret
        exact ⟨ret_int HR.out.symm, HB.out⟩
      · obtain rfl : z = (k : Int) := by omega
        obtain ⟨ax', cx', ex, _, hrx⟩ := (HX.out.call HB.out).open
        cases ex
        obtain ⟨bx, ox, rfl, _, hcx⟩ := hrx (by omega)
        obtain ⟨ay', cy', ey, _, hry⟩ := (HY.out.call HB.out).open
        cases ey
        obtain ⟨by_, oy, rfl, _, hcy⟩ := hry (by omega)
        have ca := hcx k (by omega)
        have cb := hcy k (by omega)
        have b0 : (0 : Int) ≤ (k : Int) := by omega
        have b1 : (k : Int) < (lenN A : Int) := by omega
        have b2 : (k : Int) < (lenN B : Int) := by omega
        clear hcx hcy hrx hry hz
        rcases Nat.lt_trichotomy (dig k A) (dig k B) with g | g | g
        · have HR := Lib.hid (cmp_lt (cmp_dig_lt HV.out g))
          go_wp2
          go_quiet (fail)
          go_wp2
          go_ret
          exact ⟨ret_int HR.out.symm, (by repeat (first | exact HB.out | refine below_drewN ?_ _))⟩
        · have HV' := Lib.hid (div_step HV.out g)
          have g1 : ¬ dig k A < dig k B := by omega
          have g2 : ¬ dig k B < dig k A := by omega
          clear g
          go_wp2
          go_quiet (fail)
          go_wp2
          go_quiet (fail)
          go_wp2
          go_roundw
          case rel => exact ⟨k, _, by omega, by omega, rfl, rfl, HV'.out, (by repeat (first | exact HB.out | refine below_drewN ?_ _))⟩
          case measure => first | (simp [intOf]; done) | (simp [intOf]; omega)
        · have HR := Lib.hid (cmp_gt (cmp_dig_lt HV.out.symm g))
          have g1 : ¬ dig k A < dig k B := by omega
          go_wp2
          go_quiet (fail)
          go_wp2
          go_quiet (fail)
          go_wp2
          go_ret
          exact ⟨ret_int HR.out.symm, (by repeat (first | exact HB.out | refine below_drewN ?_ _))⟩
  · have HR := Lib.hid (cmp_gt (cmp_len h))
    have hne : ¬ lenN A = lenN B := by omega
    have hnl : ¬ lenN A < lenN B := by omega
    go_enter Try.func30, Try.ntmps30
    go_wp2
    go_ret
    exact ⟨ret_int HR.out.symm, Below.refl _ _⟩
end Go.Proofs.Ythpmbfdbknikcaa
