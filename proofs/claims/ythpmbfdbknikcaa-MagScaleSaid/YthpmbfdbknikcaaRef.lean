/- The references' numbers: slices of 32-bit digits. Contracts: Trim, digit, Of, Big, Bits. -/
import Derived.Test.YthpmbfdbknikcaaKept
import Derived.Test.YthpmbfdbknikcaaDig
import Derived.Test.YthpmbfdbknikcaaNum1
import Derived.Test.YthpmbfdbknikcaaRows
import Derived.WalkKit
import Derived.WalkSpells
import Derived.WalkLawsBesides
import Derived.OwnWalk
import Derived.Maps.AppendAt
import Derived.Laws.OwnMore
set_option linter.unusedVariables false
set_option linter.unusedSimpArgs false
namespace Go.Proofs.Ythpmbfdbknikcaa
open Go.RowKit

def dv (d : Nat) : Value := .int .u32 (d : Int)
/-- a slice that reads as these digits -/
def IsL (w : World) (v : Value) (l : List Nat) : Prop :=
  DigL l ∧ ∃ (ad : Option Addr) (c : Nat), v = .slice ad l.length c ∧ l.length ≤ c ∧
    (0 < l.length → ∃ b o, ad = some ⟨b, o, none⟩ ∧ b < w.heap.size ∧ ∀ (j d : Nat), l[j]? = some d → w.cell? ⟨b, o + j, none⟩ = some (.int .u32 (d : Int)))
/-- a slice that reads as a number's digits -/
def IsN (w : World) (v : Value) (A : Nat) : Prop := IsL w v (digs A)

theorem IsL.call {w w' : World} {v : Value} {l : List Nat} (h : IsL w v l) (hb : Below w.heap.size w w') : IsL w' v l := by
  obtain ⟨hd, ad, c, rfl, hc, hr⟩ := h
  refine ⟨hd, ad, c, rfl, hc, fun h0 => ?_⟩
  obtain ⟨b, o, e, hlt, hcell⟩ := hr h0
  exact ⟨b, o, e, Nat.lt_of_lt_of_le hlt hb.size, fun j d hj => (hb.cell (p := ⟨b, o + j, none⟩) hlt).trans (hcell j d hj)⟩
theorem IsN.call {w w' : World} {v : Value} {A : Nat} (h : IsN w v A) (hb : Below w.heap.size w w') : IsN w' v A := IsL.call h hb
theorem IsL.alloc {w : World} {v : Value} {l : List Nat} (h : IsL w v l) (o : Obj) : IsL (w.alloc o) v l := h.call ((Below.refl _ _).alloc (Nat.le_refl _) o)
theorem IsN.alloc {w : World} {v : Value} {A : Nat} (h : IsN w v A) (o : Obj) : IsN (w.alloc o) v A := IsL.alloc h o
theorem IsN.drew {w : World} {v : Value} {A : Nat} (h : IsN w v A) : IsN w.drew v A := h
theorem IsN.kept {w w' : World} {v : Value} {A : Nat} (h : IsN w v A) (hk : Kept w.heap.size w w') : IsN w' v A := IsL.call h hk.below

def slen : Value → Nat
  | .slice _ n _ => n
  | _ => 0

set_option maxRecDepth 100000 in
set_option maxHeartbeats 4000000 in
theorem Trim_any {v : Value} {l : List Nat} (w : World) (h : IsL w v l) (hl : l.length ≤ 65536) :
    Calls Try.prog 57 #[v] w fun e w' => ∃ v', e = .returned v' ∧ IsN w v' (valL l) ∧ w = w' := by
  obtain ⟨hd, ad, c, rfl, hc, hr⟩ := h
  have HL := Lib.hid hl
  have HC := Lib.hid hc
  have HR := Lib.hid hr
  clear hr hc
  go_enter Try.func57, Try.ntmps57
  go_wp2
  go_loop [0] (fun a => ∃ n : Nat, n ≤ l.length ∧ a = .slice ad n c ∧ valL (l.take n) = valL l) (fun a => slen a)
  case atStart => exact ⟨l.length, Nat.le_refl _, rfl, by rw [List.take_length]⟩
  case round =>
    obtain ⟨n, hn, rfl, hv⟩ := hrel
    have HV := Lib.hid hv
    clear hv
    rcases n with _ | k
    · go_wp2
      go_ret
      have hv0 : valL l = 0 := by have := HV.out; rw [List.take_zero] at this; rw [← this]; rfl
      refine ⟨_, rfl, ?_, rfl⟩
      rw [hv0]
      unfold IsN
      rw [digs_zero]
      exact ⟨DigL.nil, ad, c, rfl, Nat.zero_le _, fun h0 => absurd h0 (by simp)⟩
    · obtain ⟨b, o, rfl, hlt, hcell⟩ := HR.out (by omega)
      obtain ⟨d, hdk⟩ : ∃ d, l[k]? = some d := ⟨l[k]'(by omega), List.getElem?_eq_getElem (by omega)⟩
      have hck := hcell k d hdk
      have hkc : k + 1 ≤ c := by have := HC.out; omega
      have HD := Lib.hid hdk
      have HCL := Lib.hid hcell
      clear hdk hcell
      by_cases h0 : d = 0
      · subst h0
        go_wp2
        go_round
        case rel => exact ⟨k, by omega, rfl, by rw [← HV.out]; exact (valL_take_drop HD.out).symm⟩
        case measure => simp [slen]
      · have hne : ((d : Int) == 0) = false := by rw [beq_eq_false_iff_ne]; omega
        go_wp2
        refine bodyPost_ret (v := .slice (some ⟨b, o, none⟩) (k + 1) c) (by simp [results, Try.results57, go_sem]) rfl ?_
        have e : digs (valL l) = l.take (k + 1) := by rw [← HV.out]; exact trim_end hd (by omega) HD.out h0
        have hlen : (l.take (k + 1)).length = k + 1 := by rw [List.length_take]; omega
        refine ⟨_, rfl, ?_, rfl⟩
        unfold IsN
        rw [e]
        refine ⟨hd.take _, _, c, by rw [hlen], by omega, fun _ => ⟨b, o, rfl, hlt, fun j x hj => HCL.out j x ?_⟩⟩
        have hj2 : j < (l.take (k + 1)).length := (List.getElem?_eq_some_iff.1 hj).1
        rw [List.getElem?_take_of_lt (by omega)] at hj
        exact hj
theorem IsL.new {w : World} {t : TypeId} (l : List Nat) (hd : DigL l) : IsL (w.alloc (.cells (l.map dv).toArray t)) (.slice (some ⟨w.heap.size, 0, none⟩) l.length l.length) l :=
  ⟨hd, _, _, rfl, Nat.le_refl _, fun _ => ⟨w.heap.size, 0, rfl, by simp, fun j d hj => by simp [hj, dv]⟩⟩
theorem IsL.newAt {w : World} {t : TypeId} {b n : Nat} {cs : Array Value} (l : List Nat) (hd : DigL l) (hb : b = w.heap.size) (hn : n = l.length) (hc : cs = (l.map dv).toArray) :
    IsL (w.alloc (.cells cs t)) (.slice (some ⟨b, 0, none⟩) n n) l := by
  subst hb; subst hn; subst hc; exact IsL.new l hd
theorem IsN.open {w : World} {v : Value} {A : Nat} (h : IsN w v A) : ∃ (ad : Option Addr) (c : Nat), v = .slice ad (lenN A) c ∧ lenN A ≤ c ∧
    (0 < lenN A → ∃ b o, ad = some ⟨b, o, none⟩ ∧ b < w.heap.size ∧ ∀ j, j < lenN A → w.cell? ⟨b, o + j, none⟩ = some (.int .u32 (dig j A : Nat))) := by
  obtain ⟨_, ad, c, e, hc, hr⟩ := h
  refine ⟨ad, c, e, hc, fun h0 => ?_⟩
  obtain ⟨b, o, e2, hlt, hcell⟩ := hr h0
  exact ⟨b, o, e2, hlt, fun j hj => hcell j _ (digs_at hj)⟩

set_option maxRecDepth 100000 in
set_option maxHeartbeats 4000000 in
theorem digit_any {v : Value} {A : Nat} (i : Nat) (w : World) (h : IsN w v A) (hl : lenN A ≤ 65536) (hi : i ≤ 1000000) :
    Calls Try.prog 58 #[v, .int .i64 (i : Int)] w fun e w' => e = .returned (.int .u32 (dig i A : Nat)) ∧ w = w' := by
  obtain ⟨ad, c, rfl, hc, hr⟩ := h.open
  by_cases hlt : i < lenN A
  · obtain ⟨b, o, rfl, hb, hcell⟩ := hr (by omega)
    have hck := hcell i hlt
    clear hcell hr
    go_enter Try.func58, Try.ntmps58
    go_wp2
    go_ret
    exact ⟨rfl, rfl⟩
  · have h0 := dig_beyond (A := A) (i := i) (by omega)
    rw [h0]
    clear hr h0
    go_enter Try.func58, Try.ntmps58
    go_wp2
    go_ret
    exact ⟨rfl, rfl⟩

set_option maxRecDepth 100000 in
set_option maxHeartbeats 4000000 in
theorem refOf_any (x : Nat) (hx : x < 2 ^ 64) (w : World) :
    Calls Try.prog 35 #[.int .u64 (x : Int)] w fun e w' => ∃ v, e = .returned v ∧ IsN w' v x ∧ Below w.heap.size w w' := by
  have hd : DigL [x % 4294967296, x / 4294967296] := fun d h => by
    simp only [List.mem_cons, List.not_mem_nil, or_false] at h
    rcases h with rfl | rfl <;> omega
  have hv : valL [x % 4294967296, x / 4294967296] = x := by simp only [valL]; omega
  have HD := Lib.hid hd
  have HV := Lib.hid hv
  clear hd hv
  go_enter Try.func35, Try.ntmps35
  go_wp2_with fail
  refine (Trim_any (l := [x % 4294967296, x / 4294967296]) _ (IsL.newAt _ HD.out rfl rfl rfl) (by simp)).mono ?_
  rintro e w' ⟨v, rfl, hN, rfl⟩
  go_wp2
  refine bodyPost_ret (v := v) (by simp [results, Try.results35, go_sem]) rfl ⟨v, rfl, by rw [HV.out] at hN; exact hN, ?_⟩
  exact (Below.refl _ _).alloc (Nat.le_refl _) _

theorem limb_nat (i A : Nat) : limb i A = ((A / 2 ^ (64 * i) % 2 ^ 64 : Nat) : Int) := by unfold limb; rfl
set_option maxRecDepth 100000 in
set_option maxHeartbeats 4000000 in
theorem Big_any {A : Nat} (hA : W128 A) (w : World) :
    Calls Try.prog 16 #[bitsV A] w fun e w' => ∃ v, e = .returned v ∧ IsN w' v A ∧ Below w.heap.size w w' := by
  obtain ⟨y, hy⟩ : ∃ y : Nat, limb 0 A = y := ⟨_, limb_nat 0 A⟩
  obtain ⟨z, hz⟩ : ∃ z : Nat, limb 1 A = z := ⟨_, limb_nat 1 A⟩
  have hA2 := hA.lt
  have hyz : y + z * 2 ^ 64 = A ∧ y < 2 ^ 64 ∧ z < 2 ^ 64 := by
    rw [limb_nat] at hy hz; omega
  have hd : DigL [y % 4294967296, y / 4294967296, z % 4294967296, z / 4294967296] := fun d h => by
    simp only [List.mem_cons, List.not_mem_nil, or_false] at h
    rcases h with rfl | rfl | rfl | rfl <;> omega
  have hv : valL [y % 4294967296, y / 4294967296, z % 4294967296, z / 4294967296] = A := by simp only [valL]; omega
  obtain ⟨_, y1, z1⟩ := hyz
  have HD := Lib.hid hd
  have HV := Lib.hid hv
  clear hd hv
  rw [bitsV, hy, hz]
  clear hy hz
  go_enter Try.func16, Try.ntmps16
  go_wp2_with fail
  refine (Trim_any (l := [y % 4294967296, y / 4294967296, z % 4294967296, z / 4294967296]) _ (IsL.newAt _ HD.out (by simp only [World.size_alloc]) rfl rfl) (by simp)).mono ?_
  rintro e w' ⟨v, rfl, hN, rfl⟩
  go_wp2
  refine bodyPost_ret (v := v) (by simp [results, Try.results16, go_sem]) rfl ⟨v, rfl, by rw [HV.out] at hN; exact hN, ?_⟩
  exact ((Below.refl _ _).alloc (Nat.le_refl _) _).alloc (by simp) _

theorem dig_pair (i A : Nat) : ((dig (2 * i) A : Nat) : Int) + ((dig (2 * i + 1) A : Nat) : Int) * 4294967296 = limb i A := by
  rw [limb_nat]
  unfold dig
  rw [show 32 * (2 * i) = 64 * i by omega, show 32 * (2 * i + 1) = 64 * i + 32 by omega, Nat.pow_add, ← Nat.div_div_eq_div_mul]
  generalize A / 2 ^ (64 * i) = q
  omega
set_option maxRecDepth 100000 in
set_option maxHeartbeats 4000000 in
theorem Bits_any {v : Value} {A : Nat} (w : World) (h : IsN w v A) (hl : lenN A ≤ 65536) :
    Calls Try.prog 22 #[v] w fun e w' => e = .returned (bitsV A) ∧ Below w.heap.size w w' := by
  have d0 := dig_lt 0 A
  have d1 := dig_lt 1 A
  have d2 := dig_lt 2 A
  have d3 := dig_lt 3 A
  have HP0 := Lib.hid (show ((dig 0 A : Nat) : Int) + ((dig 1 A : Nat) : Int) * 4294967296 = limb 0 A from dig_pair 0 A)
  have HP1 := Lib.hid (show ((dig 2 A : Nat) : Int) + ((dig 3 A : Nat) : Int) * 4294967296 = limb 1 A from dig_pair 1 A)
  go_enter Try.func22, Try.ntmps22
  go_wp2_with fail
  refine (digit_any 0 _ (h.alloc _) hl (by omega)).mono ?_
  rintro e w' ⟨rfl, rfl⟩
  go_wp2_with fail
  refine (digit_any 1 _ (h.alloc _) hl (by omega)).mono ?_
  rintro e w' ⟨rfl, rfl⟩
  go_wp2_with fail
  refine (digit_any 2 _ (h.alloc _) hl (by omega)).mono ?_
  rintro e w' ⟨rfl, rfl⟩
  go_wp2_with fail
  refine (digit_any 3 _ (h.alloc _) hl (by omega)).mono ?_
  rintro e w' ⟨rfl, rfl⟩
  go_wp2
  refine bodyPost_ret (v := .agg #[.int .u64 (((dig 2 A : Nat) : Int) + ((dig 3 A : Nat) : Int) * 4294967296), .int .u64 (((dig 0 A : Nat) : Int) + ((dig 1 A : Nat) : Int) * 4294967296)]) (by simp [results, Try.results22, go_sem]) rfl ⟨?_, ?_⟩
  · rw [bitsV, ← HP0.out, ← HP1.out]
  · refine Kept.below ?_; repeat (first | with_reducible exact Kept.refl _ | with_reducible refine Kept.alloc ?_ _ | with_reducible refine Kept.drew ?_ | with_reducible refine Kept.setCell ?_ (by simp only [World.size_alloc, World.size_setCell, World.size_drew]; omega) _)
end Go.Proofs.Ythpmbfdbknikcaa
