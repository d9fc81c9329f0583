/- The references' sums, differences and order: contracts. -/
import Derived.Test.YthpmbfdbknikcaaRef1
import Derived.Outline
set_option linter.unusedVariables false
set_option linter.unusedSimpArgs false
namespace Go.Proofs.Ythpmbfdbknikcaa
open Go.RowKit

theorem cell_new1 {wr : World} {T : TypeId} {v : Value} {d : Nat} (h : v = dv d) : (wr.alloc (.cells #[v] T)).cell? ⟨wr.heap.size, 0, none⟩ = some (dv d) := by subst h; simp
theorem int_u32 {x : Int} {d : Nat} (h : x = (d : Int)) : (.int .u32 x : Value) = dv d := by rw [h]; rfl
theorem int_u64 {x y : Int} (h : x = y) : (.int .u64 x : Value) = .int .u64 y := by rw [h]
set_option maxRecDepth 100000 in
set_option maxHeartbeats 4000000 in
theorem refAdd_any {x y : Value} {A B : Nat} (w : World) (hx : IsN w x A) (hy : IsN w y B) (la : lenN A ≤ 4096) (lb : lenN B ≤ 4096) :
    Calls Try.prog 14 #[x, y] w fun e w' => ∃ v, e = .returned v ∧ IsN w' v (A + B) ∧ Below w.heap.size w w' := by
  have hx' := hx
  have hy' := hy
  obtain ⟨ax, cx, rfl, hcx, hrx⟩ := hx.open
  obtain ⟨ay, cy, rfl, hcy, hry⟩ := hy.open
  have HX := Lib.hid hx'
  have HY := Lib.hid hy'
  clear hrx hry hx hy hx' hy' hcx hcy
  obtain ⟨M, hM1, hM2, hM3⟩ : ∃ M, lenN A ≤ M ∧ lenN B ≤ M ∧ (M = lenN A ∨ M = lenN B) := ⟨max (lenN A) (lenN B), by omega, by omega, by omega⟩
  go_enter Try.func14, Try.ntmps14
  go_wp2
  go_loopw [5, 6, 7] (fun v c i wr => ∃ (k : Nat) (l : List Nat) (cc : Nat), k ≤ M ∧ i = .int .i64 k ∧ c = .int .u64 cc ∧ cc ≤ 1 ∧ OwnN w.heap.size wr v l ∧ l.length = k ∧ Hid (valL l + cc * 2 ^ (32 * k) = A % 2 ^ (32 * k) + B % 2 ^ (32 * k)) ∧ Below w.heap.size w wr) (fun _ _ i _ => M - (intOf i).toNat)
  case atStart => exact ⟨0, [], 0, by omega, rfl, rfl, by omega, OwnN.nil _ _, rfl, Lib.hid (by simp [valL, Nat.mod_one]), Below.refl _ _⟩
  case round =>
    obtain ⟨k, l, cc, hk, rfl, rfl, hcc, hown, hlen, HV, hbel⟩ := hrel
    have d0 := dig_lt k A
    have d1 := dig_lt k B
    have HO := Lib.hid hown
    have HB := Lib.hid hbel
    have HL := Lib.hid hlen
    clear hown hbel hlen
    by_cases h1 : k < lenN A
    · have hkM : k < M := by omega
      go_wp2_with fail
      refine (digit_any k _ (HX.out.call HB.out) (by omega) (by omega)).mono ?_
      rintro e w' ⟨rfl, rfl⟩
      go_wp2_with fail
      refine (digit_any k _ (HY.out.call HB.out) (by omega) (by omega)).mono ?_
      rintro e w' ⟨rfl, rfl⟩
      go_wp2_with (at_builtin; refine app_one rfl (.tmp 31) (.tmp 34) rfl w.heap.size (by rfl) (HO.out.alloc _) wr.heap.size ((cc + dig k A + dig k B) % 2 ^ 32) (by rfl) (Nat.mod_lt _ (by decide)) (cell_new1 (int_u32 (by omega))) (by have := HL.out; omega) (by have := HB.out.size; simp; omega) ?_; intro v' w' hown' hb'; have HO' := Lib.hid hown'; have HB' := Lib.hid hb'; clear hown' hb')
      go_roundw
      case rel => exact ⟨k + 1, l ++ [(cc + dig k A + dig k B) % 2 ^ 32], (cc + dig k A + dig k B) / 2 ^ 32, by omega, by go_num, int_u64 (by omega), sum_carry32 hcc, HO'.out, by simp [HL.out], Lib.hid (by rw [valL_snoc, HL.out]; exact sum_step32 HV.out), (HB.out.alloc (HB.out.size) _).trans HB'.out⟩
      case measure => simp [intOf]; omega
    by_cases h2 : k < lenN B
    · have hkM : k < M := by omega
      go_wp2_with fail
      refine (digit_any k _ (HX.out.call HB.out) (by omega) (by omega)).mono ?_
      rintro e w' ⟨rfl, rfl⟩
      go_wp2_with fail
      refine (digit_any k _ (HY.out.call HB.out) (by omega) (by omega)).mono ?_
      rintro e w' ⟨rfl, rfl⟩
      go_wp2_with (at_builtin; refine app_one rfl (.tmp 31) (.tmp 34) rfl w.heap.size (by rfl) (HO.out.alloc _) wr.heap.size ((cc + dig k A + dig k B) % 2 ^ 32) (by rfl) (Nat.mod_lt _ (by decide)) (cell_new1 (int_u32 (by omega))) (by have := HL.out; omega) (by have := HB.out.size; simp; omega) ?_; intro v' w' hown' hb'; have HO' := Lib.hid hown'; have HB' := Lib.hid hb'; clear hown' hb')
      go_roundw
      case rel => exact ⟨k + 1, l ++ [(cc + dig k A + dig k B) % 2 ^ 32], (cc + dig k A + dig k B) / 2 ^ 32, by omega, by go_num, int_u64 (by omega), sum_carry32 hcc, HO'.out, by simp [HL.out], Lib.hid (by rw [valL_snoc, HL.out]; exact sum_step32 HV.out), (HB.out.alloc (HB.out.size) _).trans HB'.out⟩
      case measure => simp [intOf]; omega
    · have hkA : lenN A ≤ k := by omega
      have hkB : lenN B ≤ k := by omega
      have HS := Lib.hid (show valL (l ++ [cc]) = A + B by rw [valL_snoc, HL.out, HV.out, mod_len hkA, mod_len hkB])
      go_wp2_with (at_builtin; refine app_one rfl (.tmp 38) (.tmp 41) rfl w.heap.size (by rfl) (HO.out.alloc _) wr.heap.size cc (by rfl) (by omega) (cell_new1 (int_u32 (by omega))) (by have := HL.out; omega) (by have := HB.out.size; simp; omega) ?_; intro v' w' hown' hb'; have HO' := Lib.hid hown'; have HB' := Lib.hid hb'; clear hown' hb')
      refine (Trim_any _ HO'.out.reads (by simp [HL.out]; omega)).mono ?_
      rintro e w' ⟨v2, rfl, hN, rfl⟩
      go_wp2
      go_ret
      exact ⟨v2, rfl, by rw [HS.out] at hN; exact hN, (HB.out.alloc (HB.out.size) _).trans HB'.out⟩
end Go.Proofs.Ythpmbfdbknikcaa
