/- The references' products: contract. -/
import Derived.Test.YthpmbfdbknikcaaRefShr
set_option linter.unusedVariables false
set_option linter.unusedSimpArgs false
namespace Go.Proofs.Ythpmbfdbknikcaa
open Go.RowKit

theorem OwnN.drewN {B : Nat} {w : World} {v : Value} {l : List Nat} (h : OwnN B w v l) (n : Nat) : OwnN B (w.drewN n) v l := h.call (below_drewN (Below.refl _ _) n)
theorem below_setCell {B : Nat} {a w : World} (h : Below B a w) {p : Addr} (hp : B ≤ p.block) (v : Value) : Below B a (w.setCell p v) := h.setCell hp v
theorem cast_wrap {x : Int} {n : Nat} (h : x = n) (hn : n < 2 ^ 64) : IntKind.u64.wrap x = n := by rw [h]; exact wrap_u64 (by omega) (by omega)
set_option maxRecDepth 100000 in
set_option maxHeartbeats 8000000 in
theorem refMul_any {x y : Value} {A B : Nat} (w : World) (hx : IsN w x A) (hy : IsN w y B) (la : lenN A ≤ 1024) (lb : lenN B ≤ 1024) :
    Calls Try.prog 34 #[x, y] w fun e w' => ∃ v, e = .returned v ∧ IsN w' v (A * B) ∧ Below w.heap.size w w' := by
  have hx' := hx
  have hy' := hy
  obtain ⟨ax, cx, rfl, hcx, hrx⟩ := hx.open
  obtain ⟨ay, cy, rfl, hcy, hry⟩ := hy.open
  have HX := Lib.hid hx'
  have HY := Lib.hid hy'
  clear hrx hry hx hy hx' hy' hcx hcy
  obtain ⟨L, hL⟩ : ∃ L, L = lenN A + lenN B + 1 := ⟨_, rfl⟩
  have HL := Lib.hid hL
  have hL0 : ((lenN A : Int) + (lenN B : Int) + 1) = L := by omega
  have hL9 : L ≤ 3000 := by omega
  clear hL
  go_enter Try.func34, Try.ntmps34
  go_wp2_with (at_make; refine make_any rfl (.tmp 14) (.tmp 14) rfl w.heap.size L rfl (by rfl) (by rfl) (by omega) (Nat.le_refl _) ?_; intro w1 hown hbel)
  have HO1 := Lib.hid hown
  have HB1 := Lib.hid hbel
  clear hown hbel
  go_loopw [6] (fun i wr => ∃ (k : Nat) (l : List Nat), k ≤ lenN A ∧ i = .int .i64 k ∧ OwnN w.heap.size wr (.slice (some ⟨w.heap.size, 0, none⟩) l.length L) l ∧ l.length = L ∧ Hid (valL l = A % 2 ^ (32 * k) * B) ∧ Below w.heap.size w wr) (fun i _ => lenN A - (intOf i).toNat)
  case atStart => exact ⟨0, _, by omega, rfl, by rw [List.length_replicate]; exact HO1.out, List.length_replicate, Lib.hid (by simp [valL_zeros, Nat.mod_one]), HB1.out⟩
  case round =>
    obtain ⟨i, l, hi, rfl, hown, hlen, HV, hbel⟩ := hrel
    have HO := Lib.hid hown
    have HB := Lib.hid hbel
    have HN := Lib.hid hlen
    clear hown hbel hlen
    obtain ⟨wo, hwo⟩ : ∃ wo : World, wo = wr := ⟨_, rfl⟩
    subst hwo
    by_cases h1 : i < lenN A
    · go_wp2
      go_loopw [7, 8] (fun c k wr => ∃ (j : Nat) (l : List Nat) (cc : Nat), j ≤ L ∧ k = .int .i64 j ∧ c = .int .u64 cc ∧ cc < 2 ^ 32 ∧ OwnN w.heap.size wr (.slice (some ⟨w.heap.size, 0, none⟩) l.length L) l ∧ l.length = L ∧ Hid (valL l + cc * 2 ^ (32 * (i + j)) = A % 2 ^ (32 * i) * B + dig i A * (B % 2 ^ (32 * j)) * 2 ^ (32 * i)) ∧ Below w.heap.size w wr) (fun _ k _ => L - (intOf k).toNat)
      case atStart => exact ⟨0, l, 0, by omega, rfl, rfl, by omega, HO.out, HN.out, Lib.hid (by simp [Nat.mod_one, HV.out]), HB.out⟩
      case round =>
        clear HO HB HN HV
        obtain ⟨j, l2, cc, hj, rfl, rfl, hcc, hown, hlen, HV, hbel⟩ := hrel
        have HO := Lib.hid hown
        have HB := Lib.hid hbel
        have HN := Lib.hid hlen
        clear hown hbel hlen
        have HCC := Lib.hid hcc
        clear hcc
        by_cases hgo : j < lenN B ∨ 0 < cc
        · have hin : i + j < lenN A + lenN B := by
            rcases hgo with g | g
            · omega
            · exact mul_in_row HV.out h1 g
          have hL1 := HL.out
          have hin1 : i + j < L := by omega
          have hjL : j < L := by omega
          obtain ⟨ax', cx', ex, _, hrx⟩ := (HX.out.call HB.out).open
          cases ex
          obtain ⟨bx, ox, rfl, _, hcx⟩ := hrx (by omega)
          have ca := hcx i h1
          obtain ⟨e, he⟩ : ∃ e, l2[i + j]? = some e := ⟨l2[i + j]'(by rw [HN.out]; exact hin1), List.getElem?_eq_getElem (by rw [HN.out]; exact hin1)⟩
          have ce := HO.out.cell he
          have cf := HO.out.free (i + j)
          have HEL := Lib.hid he
          have he32 := HO.out.1.at he
          have d0 := dig_lt i A
          have d1 := dig_lt j B
          obtain ⟨t1, t2⟩ := mul_carry32 d0 d1 HCC.out he32
          obtain ⟨Pm, hPm⟩ : ∃ Pm, dig i A * dig j B = Pm := ⟨_, rfl⟩
          rw [hPm] at t1 t2
          obtain ⟨S1, hS1⟩ : ∃ S1, cc + Pm = S1 := ⟨_, rfl⟩
          obtain ⟨T, hT⟩ : ∃ T, S1 + e = T := ⟨_, rfl⟩
          obtain ⟨U, hU⟩ : ∃ U, T % 2 ^ 32 = U := ⟨_, rfl⟩
          have hT' : cc + dig i A * dig j B + e = T := by rw [hPm]; omega
          have wa : IntKind.u64.wrap ((dig i A : Nat) : Int) = ((dig i A : Nat) : Int) := wrap_u64 (by omega) (by omega)
          have wb : IntKind.u64.wrap ((dig j B : Nat) : Int) = ((dig j B : Nat) : Int) := wrap_u64 (by omega) (by omega)
          have wm : IntKind.u64.wrap (((dig i A : Nat) : Int) * ((dig j B : Nat) : Int)) = (Pm : Int) := cast_wrap (by rw [← hPm, Int.natCast_mul]) (by omega)
          have ws : IntKind.u64.wrap ((cc : Int) + (Pm : Int)) = (S1 : Int) := cast_wrap (by omega) (by omega)
          have we : IntKind.u64.wrap (e : Int) = (e : Int) := wrap_u64 (by omega) (by omega)
          have wt : IntKind.u64.wrap ((S1 : Int) + (e : Int)) = (T : Int) := cast_wrap (by omega) (by omega)
          have wi : IntKind.i64.wrap ((i : Int) + (j : Int)) = (i : Int) + (j : Int) := IntWalk.i64_in _ (by omega)
          have tm : (T : Int) % 4294967296 = (U : Int) := by omega
          have HT2 := Lib.hid (show T / 2 ^ 32 < 2 ^ 32 by omega)
          have HTT := Lib.hid hT'
          have HU := Lib.hid hU
          have b0 : (0 : Int) ≤ (i : Int) + (j : Int) := by omega
          have b1 : (i : Int) + (j : Int) < (L : Int) := by omega
          have b2 : (i : Int) < (lenN A : Int) := by omega
          have b3 : (0 : Int) ≤ (i : Int) := by omega
          have hlen2 := HN.out
          rw [dv] at ce
          clear he he32 d0 d1 t1 t2 hPm hS1 hT hT' hU hin hL1 hcx hrx
          have hU32 : U < 2 ^ 32 := by rw [← HU.out]; exact Nat.mod_lt _ (by decide)
          have HU32 := Lib.hid hU32
          clear hU32 hlen2
          have HS := Lib.hid (show valL (l2.set (i + j) U) + e * 2 ^ (32 * (i + j)) = valL l2 + (cc + dig i A * dig j B + e) % 2 ^ 32 * 2 ^ (32 * (i + j)) by rw [HTT.out, HU.out]; exact valL_set HEL.out)
          have HV2 := Lib.hid (show valL (l2.set (i + j) U) + T / 2 ^ 32 * 2 ^ (32 * (i + (j + 1))) = A % 2 ^ (32 * i) * B + dig i A * (B % 2 ^ (32 * (j + 1))) * 2 ^ (32 * i) by
            have := mul_step32 HV.out HS.out
            rw [HTT.out] at this; exact this)
          have go : (j < lenN B) ∨ (lenN B ≤ j ∧ 0 < cc) := by omega
          clear hgo HS HEL HTT HU HV
          rcases go with g | ⟨g, g2⟩
          all_goals
            go_wp2
            go_quiet ((go_at_call 58; exact Calls.quiet_of_same (digit_z j (by omega) _ (HY.out.call (by repeat (first | exact HB.out | refine below_drewN ?_ _ | refine Below.drew ?_))) (by omega) (by omega))))
            go_wp2
            go_roundw
            case rel => exact ⟨j + 1, l2.set (i + j) U, T / 2 ^ 32, by omega, by go_num, int_u64 (by omega), HT2.out, (by rw [List.length_set]; exact (HO.out.drewN _).stored (i + j) HU32.out), by rw [List.length_set]; exact HN.out, HV2, below_setCell (below_drewN HB.out _) (Nat.le_refl _) _⟩
            case measure => simp [intOf]; omega
        · have g0 : lenN B ≤ j := by omega
          obtain rfl : cc = 0 := by omega
          have HV2 := Lib.hid (show valL l2 = A % 2 ^ (32 * (i + 1)) * B by
            have := HV.out
            rw [mod_len g0, Nat.zero_mul, Nat.add_zero, mul_row] at this; exact this)
          clear hgo HV HCC
          go_wp2
          go_roundw
          case rel => exact ⟨i + 1, l2, by omega, by go_num, HO.out, HN.out, HV2, HB.out⟩
          case measure => simp [intOf]; omega
    · have hiA : lenN A ≤ i := by omega
      have HS := Lib.hid (show valL l = A * B by rw [HV.out, mod_len hiA])
      have hlen2 := HN.out
      go_wp2_with fail
      refine (Trim_any _ (by have := HO.out.reads; rw [HN.out] at this; exact this) (by rw [HN.out]; omega)).mono ?_
      rintro e w' ⟨v2, rfl, hN, rfl⟩
      go_wp2
      go_ret
      exact ⟨v2, rfl, by rw [HS.out] at hN; exact hN, HB.out⟩
end Go.Proofs.Ythpmbfdbknikcaa
