/- The references' differences and order: contracts. -/
import Derived.Test.YthpmbfdbknikcaaRefAdd
import Derived.Deep.QuietTactic
import Derived.BigQuiet
set_option linter.unusedVariables false
set_option linter.unusedSimpArgs false
namespace Go.Proofs.Ythpmbfdbknikcaa
open Go.RowKit

set_option maxRecDepth 100000 in
set_option maxHeartbeats 4000000 in
theorem refSub_any {x y : Value} {A B : Nat} (w : World) (hx : IsN w x A) (hy : IsN w y B) (la : lenN A ≤ 4096) (lb : lenN B ≤ 4096) (hle : B ≤ A) :
    Calls Try.prog 31 #[x, y] w fun e w' => ∃ v, e = .returned v ∧ IsN w' v (A - B) ∧ Below w.heap.size w w' := by
  have hx' := hx
  have hy' := hy
  obtain ⟨ax, cx, rfl, hcx, hrx⟩ := hx.open
  obtain ⟨ay, cy, rfl, hcy, hry⟩ := hy.open
  have HX := Lib.hid hx'
  have HY := Lib.hid hy'
  have HLE := Lib.hid hle
  clear hrx hry hx hy hx' hy' hcx hcy hle
  go_enter Try.func31, Try.ntmps31
  go_wp2
  go_loopw [5, 6, 7] (fun v c i wr => ∃ (k : Nat) (l : List Nat) (cc : Nat), k ≤ lenN A ∧ i = .int .i64 k ∧ c = .int .u64 cc ∧ cc ≤ 1 ∧ OwnN w.heap.size wr v l ∧ l.length = k ∧ Hid (valL l + B % 2 ^ (32 * k) = A % 2 ^ (32 * k) + cc * 2 ^ (32 * k)) ∧ Below w.heap.size w wr) (fun _ _ i _ => lenN A - (intOf i).toNat)
  case atStart => exact ⟨0, [], 0, by omega, rfl, rfl, by omega, OwnN.nil _ _, rfl, Lib.hid (by simp [valL, Nat.mod_one]), Below.refl _ _⟩
  case round =>
    obtain ⟨k, l, cc, hk, rfl, rfl, hcc, hown, hlen, HV, hbel⟩ := hrel
    have d0 := dig_lt k A
    have d1 := dig_lt k B
    have HO := Lib.hid hown
    have HB := Lib.hid hbel
    have HL := Lib.hid hlen
    clear hown hbel hlen
    by_cases h1 : k < lenN A
    · have q0 : (0 : Int) ≤ ((dig k A : Nat) : Int) + 4294967296 - ((dig k B : Nat) : Int) - (cc : Int) := by omega
      have q1 : ((dig k A : Nat) : Int) + 4294967296 - ((dig k B : Nat) : Int) - (cc : Int) ≤ 8589934592 := by omega
      go_wp2_with fail
      refine (digit_any k _ (HX.out.call HB.out) (by omega) (by omega)).mono ?_
      rintro e w' ⟨rfl, rfl⟩
      go_wp2_with fail
      refine (digit_any k _ (HY.out.call HB.out) (by omega) (by omega)).mono ?_
      rintro e w' ⟨rfl, rfl⟩
      go_wp2_with (at_builtin; refine app_one rfl (.tmp 27) (.tmp 30) rfl w.heap.size (by rfl) (HO.out.alloc _) wr.heap.size ((dig k A + 2 ^ 32 - dig k B - cc) % 2 ^ 32) (by rfl) (Nat.mod_lt _ (by decide)) (cell_new1 (int_u32 (by omega))) (by have := HL.out; omega) (by have := HB.out.size; simp; omega) ?_; intro v' w' hown' hb'; have HO' := Lib.hid hown'; have HB' := Lib.hid hb'; clear hown' hb')
      go_roundw
      case rel => exact ⟨k + 1, l ++ [(dig k A + 2 ^ 32 - dig k B - cc) % 2 ^ 32], 1 - (dig k A + 2 ^ 32 - dig k B - cc) / 2 ^ 32, by omega, by go_num, int_u64 (by omega), by omega, HO'.out, by simp [HL.out], Lib.hid (by rw [valL_snoc, HL.out]; exact dif_step32 hcc HV.out), (HB.out.alloc (HB.out.size) _).trans HB'.out⟩
      case measure => simp [intOf]; omega
    · have hkA : lenN A ≤ k := by omega
      have HS := Lib.hid (show valL l = A - B by
        have e := HV.out
        have hkB : lenN B ≤ k := Nat.le_trans (lenN_mono HLE.out) hkA
        rw [mod_len hkA, mod_len hkB] at e
        have h2 := valL_lt HO.out.1
        rw [HL.out] at h2
        have h3 := HLE.out
        have h4 := mod_len hkA
        have h5 : A < 2 ^ (32 * k) := by rw [← h4]; exact Nat.mod_lt _ (Nat.two_pow_pos _)
        have h6 : cc = 0 := by
          rcases (by omega : cc = 0 ∨ cc = 1) with h | h
          · exact h
          · subst h; omega
        subst h6; omega)
      go_wp2_with fail
      refine (Trim_any _ HO.out.reads (by simp [HL.out]; omega)).mono ?_
      rintro e w' ⟨v2, rfl, hN, rfl⟩
      go_wp2
      go_ret
      exact ⟨v2, rfl, by rw [HS.out] at hN; exact hN, HB.out⟩
end Go.Proofs.Ythpmbfdbknikcaa
