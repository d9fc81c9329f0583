/- The quotient of two words by one, as Go's library reckons it: contract; Step. -/
import Derived.Test.YtglagdmfplgfaaaLen64
import Derived.Test.YtglagdmfplgfaaaQuotS
set_option linter.unusedVariables false
set_option linter.unusedSimpArgs false
namespace Go.Proofs.Ytglagdmfplgfaaa
open Go.RowKit

theorem wrap_mod64 (x : Int) : IntKind.u64.wrap x = x % 18446744073709551616 := by simp [IntKind.wrap, IntKind.signed, IntKind.bits]
theorem wrapN {x : Int} {n : Nat} (h : x = n) (hn : n < 2 ^ 64) : IntKind.u64.wrap x = n := by rw [h]; exact wrap_u64 (by omega) (by omega)
set_option maxRecDepth 20000 in
set_option maxHeartbeats 8000000 in
theorem div64_low {l y : Nat} (hy : 0 < y) (hy2 : y < 2 ^ 64) (hl : l < 2 ^ 64) (w : World) :
    Calls Try.prog 76 #[.int .u64 0, .int .u64 (l : Int), .int .u64 (y : Int)] w fun e w' => e = .returned (.tuple #[.int .u64 ((l / y : Nat) : Int), .int .u64 ((l % y : Nat) : Int)]) ∧ Below w.heap.size w w' := by
  obtain ⟨q, hq⟩ : ∃ q : Nat, l / y = q := ⟨_, rfl⟩
  obtain ⟨r, hr⟩ : ∃ r : Nat, l % y = r := ⟨_, rfl⟩
  rw [hq, hr]
  have d1 : (l : Int).tdiv y = (q : Int) := by rw [← hq]; rfl
  have d2 : (l : Int).tmod y = (r : Int) := by rw [← hr]; rfl
  have d3 : (l : Int) / y = (q : Int) := by rw [← hq]; simp
  have d4 : (l : Int) % y = (r : Int) := by rw [← hr]; simp
  have q9 : q ≤ l := by rw [← hq]; exact Nat.div_le_self _ _
  have r9 : r < y := by rw [← hr]; exact Nat.mod_lt _ hy
  have w1 : IntKind.u64.wrap (q : Int) = (q : Int) := wrapN rfl (by omega)
  have w2 : IntKind.u64.wrap (r : Int) = (r : Int) := wrapN rfl (by omega)
  have y0 : ¬ (y : Int) = 0 := by omega
  have y1 : ((y : Int) ≤ 0) = False := eq_false (by omega)
  clear hq hr
  go_enter Try.func76, Try.ntmps76
  go_wp2
  go_region
  all_goals go_wp2
  all_goals
    refine bodyPost_ret (v := .tuple #[.int .u64 ((q : Nat) : Int), .int .u64 ((r : Nat) : Int)]) (by simp [results, Try.results76, go_sem]) rfl ⟨rfl, (Below.refl _ _).drew⟩

set_option maxRecDepth 20000 in
set_option maxHeartbeats 8000000 in
theorem div64_high {h l y : Nat} (h0 : 0 < h) (hh : h < y) (hy2 : y < 2 ^ 64) (hl : l < 2 ^ 64) (w : World) :
    Calls Try.prog 76 #[.int .u64 (h : Int), .int .u64 (l : Int), .int .u64 (y : Int)] w fun e w' => e = .returned (.tuple #[.int .u64 (((h * 2 ^ 64 + l) / y : Nat) : Int), .int .u64 (((h * 2 ^ 64 + l) % y : Nat) : Int)]) ∧ Below w.heap.size w w' := by
  obtain ⟨b1, b2, b3, b4⟩ := lenB_up (show 0 < y by omega) hy2
  obtain ⟨s, hs⟩ : ∃ s : Nat, 64 - lenB y = s := ⟨_, rfl⟩
  rw [hs] at b3 b4
  have hs63 : s ≤ 63 := by omega
  obtain ⟨t, ht⟩ : ∃ t : Nat, 64 - s = t := ⟨_, rfl⟩
  obtain ⟨m1, m2, m3⟩ := moved_up hh hl (show s ≤ 64 by omega) b4
  rw [ht] at m1 m2 m3
  obtain ⟨Y, hY⟩ : ∃ Y : Nat, y * 2 ^ s = Y := ⟨_, rfl⟩
  obtain ⟨lo, hlo⟩ : ∃ lo : Nat, l / 2 ^ t = lo := ⟨_, rfl⟩
  obtain ⟨H, hH⟩ : ∃ H : Nat, h * 2 ^ s = H := ⟨_, rfl⟩
  obtain ⟨L, hL⟩ : ∃ L : Nat, l * 2 ^ s % 2 ^ 64 = L := ⟨_, rfl⟩
  have hL9 : L < 2 ^ 64 := by rw [← hL]; exact Nat.mod_lt _ (by decide)
  rw [hY] at b3 b4 m2
  have eo := or_high (h := h) (s := s) (lo := lo) (by rw [hH]; omega) (by rw [← hlo]; exact m1) (by rw [← hlo]; exact Nat.lt_of_le_of_lt (Nat.div_le_self _ _) hl)
  rw [hlo, hH] at m2 m3
  rw [hH] at eo
  rw [hL] at m3
  have hlo9 : lo < 2 ^ 64 := by rw [← hlo]; exact Nat.lt_of_le_of_lt (Nat.div_le_self _ _) hl
  obtain ⟨u, hu⟩ : ∃ u : Nat, H + lo = u := ⟨_, rfl⟩
  rw [hu] at m2 m3 eo
  obtain ⟨a, ha⟩ : ∃ a : Nat, Y / 2 ^ 32 = a := ⟨_, rfl⟩
  obtain ⟨b, hb⟩ : ∃ b : Nat, Y % 2 ^ 32 = b := ⟨_, rfl⟩
  obtain ⟨v1, hv1⟩ : ∃ v1 : Nat, L / 2 ^ 32 = v1 := ⟨_, rfl⟩
  obtain ⟨v0, hv0⟩ : ∃ v0 : Nat, L % 2 ^ 32 = v0 := ⟨_, rfl⟩
  have eb := and_mask b4
  have ev := and_mask hL9
  rw [hb] at eb
  rw [hv0] at ev
  have hYab : Y = a * 2 ^ 32 + b := by omega
  have hLv : L = v1 * 2 ^ 32 + v0 := by omega
  have a31 : 2 ^ 31 ≤ a := by omega
  have a32 : a < 2 ^ 32 := by omega
  have b32 : b < 2 ^ 32 := by omega
  have v132 : v1 < 2 ^ 32 := by omega
  have v032 : v0 < 2 ^ 32 := by omega
  obtain ⟨g1, g2⟩ := guess_start hYab a31 b32 m2 v132
  obtain ⟨q, hq⟩ : ∃ q : Nat, u / a = q := ⟨_, rfl⟩
  obtain ⟨r, hr⟩ : ∃ r : Nat, u % a = r := ⟨_, rfl⟩
  rw [hq] at g1 g2
  rw [hr] at g1
  have hra : r < a := by rw [← hr]; exact Nat.mod_lt _ (by omega)
  have G1 := Lib.hid g1
  have G2 := Lib.hid g2
  -- what the walk asks
  have eY : IntKind.u64.wrap ((y : Int) * 2 ^ s) = (Y : Int) := wrapN (by rw [← hY]; simp) b4
  have ea : (Y : Int) / 4294967296 = (a : Int) := by omega
  have eH : IntKind.u64.wrap ((h : Int) * 2 ^ s) = (H : Int) := wrapN (by rw [← hH]; simp) (by omega)
  have el : (l : Int) / 2 ^ t = (lo : Int) := by rw [← hlo]; simp
  have eL : IntKind.u64.wrap ((l : Int) * 2 ^ s) = (L : Int) := by
    rw [wrap_mod64, ← hL]; simp
  have ev1 : (L : Int) / 4294967296 = (v1 : Int) := by omega
  have eq_ : (u : Int) / a = (q : Int) := by rw [← hq]; simp
  obtain ⟨p, hp⟩ : ∃ p : Nat, q * a = p := ⟨_, rfl⟩
  have hpu : p + r = u := by have := g1.left; omega
  have ep : IntKind.u64.wrap ((q : Int) * a) = (p : Int) := wrapN (by rw [← hp]; simp) (by omega)
  have er : IntKind.u64.wrap ((u : Int) - p) = (r : Int) := wrapN (by omega) (by omega)
  have wq : IntKind.u64.wrap (q : Int) = (q : Int) := wrapN rfl (by omega)
  have es : IntKind.u64.wrap (s : Int) = (s : Int) := wrapN rfl (by omega)
  have es2 : IntKind.u64.wrap (64 - (s : Int)) = (t : Int) := wrapN (by omega) (by omega)
  have es3 : (64 : Int) - ((lenB y : Nat) : Int) = (s : Int) := by omega
  have y0 : ¬ (y : Int) = 0 := by omega
  have y1 : ((y : Int) ≤ (h : Int)) = False := eq_false (by omega)
  have y2 : ¬ (h : Int) = 0 := by omega
  have a0 : ¬ (a : Int) = 0 := by omega
  have a00 : ¬ a = 0 := by omega
  have s0 : (0 : Int) ≤ (s : Int) := by omega
  have s1 : (s : Int) < 64 := by omega
  have t0 : (0 : Int) ≤ (t : Int) := by omega
  have t1 : (t : Int) ≤ 64 := by omega
  have HM := Lib.hid m3
  have HLV := Lib.hid hLv
  have HYab := Lib.hid hYab
  have HYs := Lib.hid hY
  have M1 := Lib.hid m2
  have V1 := Lib.hid v132
  have V0 := Lib.hid v032
  clear hs ht b1 b2 b3 m1 m3 hY hlo hH hL hu ha hb hv1 hv0 hYab hLv g1 g2 hq hr hp hpu m2
  go_enter Try.func76, Try.ntmps76
  go_wp2_with fail
  refine (lz64_any (show 0 < y by omega) hy2 _).mono ?_
  rintro e w' ⟨rfl, rfl⟩
  go_wp2
  go_loop [15, 16] (fun x z => ∃ (qq rr : Nat), x = .int .u64 (qq : Int) ∧ z = .int .u64 (rr : Int) ∧ rr < 2 ^ 32 ∧ qq ≤ 2 ^ 32 + 1 ∧ Hid (Guess Y a b u v1 qq rr)) (fun _ z => 8589934592 - (intOf z).toNat)
  case atStart => exact ⟨q, r, rfl, rfl, by omega, (by first | omega | exact G2.out), G1⟩
  case round =>
    obtain ⟨q1, r1, rfl, rfl, hr1, hq1, G1⟩ := hrel
    have HR1 := Lib.hid hr1
    have HQ1 := Lib.hid hq1
    obtain ⟨P1, hP1⟩ : ∃ P : Nat, q1 * b = P := ⟨_, rfl⟩
    obtain ⟨S1, hS1⟩ : ∃ S : Nat, 2 ^ 32 * r1 + v1 = S := ⟨_, rfl⟩
    have wS1 : IntKind.u64.wrap (4294967296 * (r1 : Int)) = ((2 ^ 32 * r1 : Nat) : Int) := wrapN (by omega) (by omega)
    have wS2 : IntKind.u64.wrap (((2 ^ 32 * r1 : Nat) : Int) + (v1 : Int)) = (S1 : Int) := wrapN (by omega) (by omega)
    obtain ⟨W1, hW1⟩ : ∃ W : Nat, 2 ^ 32 * r1 = W := ⟨_, rfl⟩
    rw [hW1] at wS1 wS2
    have cases_ : (2 ^ 32 ≤ q1 ∨ (q1 < 2 ^ 32 ∧ S1 < P1)) ∨ (q1 < 2 ^ 32 ∧ P1 ≤ S1) := by omega
    rcases cases_ with hgo | hstop
    · obtain ⟨d1, d2⟩ := guess_down HYab.out M1.out V1.out G1.out (by rcases hgo with g | g; exact .inl g; exact .inr (by omega))
      obtain ⟨n1, hn1⟩ : ∃ n : Nat, q1 - 1 = n := ⟨_, rfl⟩
      obtain ⟨m1, hm1⟩ : ∃ m : Nat, r1 + a = m := ⟨_, rfl⟩
      rw [hn1, hm1] at d2
      have D2 := Lib.hid d2
      have wn : IntKind.u64.wrap ((q1 : Int) - 1) = (n1 : Int) := wrapN (by omega) (by omega)
      have wm : IntKind.u64.wrap ((r1 : Int) + (a : Int)) = (m1 : Int) := wrapN (by omega) (by omega)
      have hnq : n1 ≤ 2 ^ 32 := by omega
      have hmm : m1 < 2 ^ 33 := by omega
      have hmr : r1 + 2 ^ 31 ≤ m1 := by omega
      have hP64 : q1 < 2 ^ 32 → P1 < 2 ^ 64 := fun g => by
        have := Nat.mul_le_mul (show q1 ≤ 2 ^ 32 - 1 by omega) (show b ≤ 2 ^ 32 - 1 by omega)
        omega
      clear d1 d2 hn1 hm1
      by_cases hfar : 2 ^ 32 ≤ m1
      · have cf : ((4294967296 : Int) ≤ (m1 : Int)) = True := eq_true (by omega)
        have E := Lib.hid (guess_end HYab.out D2.out (guess_far b32 hnq hfar))
        have MO := Lib.hid D2.out.more
        rcases hgo with g | ⟨g, g2⟩
        · have ca : ((4294967296 : Int) ≤ (q1 : Int)) = True := eq_true (by omega)
          clear hP1 hS1 hW1 hP64
          have hd := guess_digit E.out M1.out V1.out
          obtain ⟨qY, hqY⟩ : ∃ x : Nat, n1 * Y = x := ⟨_, rfl⟩
          obtain ⟨T1, hT1⟩ : ∃ x : Nat, u * 2 ^ 32 + v1 = x := ⟨_, rfl⟩
          obtain ⟨u2, hu2⟩ : ∃ x : Nat, T1 - qY = x := ⟨_, rfl⟩
          have e1 := E.out
          have e2 := MO.out
          have e3 := M1.out
          rw [hqY, hT1] at e1
          rw [Nat.add_mul, Nat.one_mul, hqY, hT1] at e2
          have hT : T1 = qY + u2 := by omega
          have hu2Y : u2 < Y := by omega
          have x1 : IntKind.u64.wrap ((u : Int) * 4294967296) = ((u * 2 ^ 32 % 2 ^ 64 : Nat) : Int) := by rw [wrap_mod64]; omega
          obtain ⟨z1, hz1⟩ : ∃ x : Nat, u * 2 ^ 32 % 2 ^ 64 = x := ⟨_, rfl⟩
          rw [hz1] at x1
          have x2 : IntKind.u64.wrap ((z1 : Int) + (v1 : Int)) = (((z1 + v1) % 2 ^ 64 : Nat) : Int) := by rw [wrap_mod64]; omega
          obtain ⟨z2, hz2⟩ : ∃ x : Nat, (z1 + v1) % 2 ^ 64 = x := ⟨_, rfl⟩
          rw [hz2] at x2
          have x3 : IntKind.u64.wrap ((n1 : Int) * (Y : Int)) = ((qY % 2 ^ 64 : Nat) : Int) := by rw [wrap_mod64, ← hqY]; simp
          obtain ⟨z3, hz3⟩ : ∃ x : Nat, qY % 2 ^ 64 = x := ⟨_, rfl⟩
          rw [hz3] at x3
          have x4 : IntKind.u64.wrap ((z2 : Int) - (z3 : Int)) = (u2 : Int) := by rw [wrap_mod64]; omega
          obtain ⟨g3, g4⟩ := guess_start HYab.out a31 b32 hu2Y V0.out
          obtain ⟨qb, hqb⟩ : ∃ x : Nat, u2 / a = x := ⟨_, rfl⟩
          obtain ⟨rb, hrb⟩ : ∃ x : Nat, u2 % a = x := ⟨_, rfl⟩
          obtain ⟨pb, hpb⟩ : ∃ x : Nat, qb * a = x := ⟨_, rfl⟩
          rw [hqb, hrb] at g3
          rw [hqb] at g4
          have hrba : rb < a := by rw [← hrb]; exact Nat.mod_lt _ (by omega)
          have hpr : pb + rb = u2 := by have := g3.left; omega
          have x5 : (u2 : Int) / (a : Int) = (qb : Int) := by rw [← hqb]; simp
          have x6 : IntKind.u64.wrap (qb : Int) = (qb : Int) := wrapN rfl (by omega)
          have x7 : IntKind.u64.wrap ((qb : Int) * (a : Int)) = (pb : Int) := wrapN (by rw [← hpb]; simp) (by omega)
          have x8 : IntKind.u64.wrap ((u2 : Int) - (pb : Int)) = (rb : Int) := wrapN (by omega) (by omega)
          have G2s := Lib.hid g3
          have M2 := Lib.hid hu2Y
          have V2 := V0
          have HT := Lib.hid (show u * 2 ^ 32 + v1 = n1 * Y + u2 by rw [hqY, hT1]; exact hT)
          have HD := Lib.hid hd
          clear e1 e2 e3 hT hz1 hz2 hz3 hqY hT1 hu2 hqb hrb hpb g3 hd
          go_wp2
          go_loop [18, 16] (fun x z => ∃ (qq rr : Nat), x = .int .u64 (qq : Int) ∧ z = .int .u64 (rr : Int) ∧ rr < 2 ^ 32 ∧ qq ≤ 2 ^ 32 + 1 ∧ Hid (Guess Y a b u2 v0 qq rr)) (fun _ z => 8589934592 - (intOf z).toNat)
          case atStart => exact ⟨qb, rb, rfl, rfl, by omega, (by first | omega | exact G2.out), G2s⟩
          case round =>
            obtain ⟨q2, r2, rfl, rfl, hr2, hq2, G2⟩ := hrel
            have HR2 := Lib.hid hr2
            have HQ2 := Lib.hid hq2
            obtain ⟨P2, hP2⟩ : ∃ P : Nat, q2 * b = P := ⟨_, rfl⟩
            obtain ⟨S2, hS2⟩ : ∃ S : Nat, 2 ^ 32 * r2 + v0 = S := ⟨_, rfl⟩
            have wS1 : IntKind.u64.wrap (4294967296 * (r2 : Int)) = ((2 ^ 32 * r2 : Nat) : Int) := wrapN (by omega) (by omega)
            have wS2 : IntKind.u64.wrap (((2 ^ 32 * r2 : Nat) : Int) + (v0 : Int)) = (S2 : Int) := wrapN (by omega) (by omega)
            obtain ⟨W2, hW2⟩ : ∃ W : Nat, 2 ^ 32 * r2 = W := ⟨_, rfl⟩
            rw [hW2] at wS1 wS2
            have cases_ : (2 ^ 32 ≤ q2 ∨ (q2 < 2 ^ 32 ∧ S2 < P2)) ∨ (q2 < 2 ^ 32 ∧ P2 ≤ S2) := by omega
            rcases cases_ with hgo | hstop
            · obtain ⟨d1, d2⟩ := guess_down HYab.out M2.out V2.out G2.out (by rcases hgo with g | g; exact .inl g; exact .inr (by omega))
              obtain ⟨n2, hn2⟩ : ∃ n : Nat, q2 - 1 = n := ⟨_, rfl⟩
              obtain ⟨m2, hm2⟩ : ∃ m : Nat, r2 + a = m := ⟨_, rfl⟩
              rw [hn2, hm2] at d2
              have D2 := Lib.hid d2
              have wn : IntKind.u64.wrap ((q2 : Int) - 1) = (n2 : Int) := wrapN (by omega) (by omega)
              have wm : IntKind.u64.wrap ((r2 : Int) + (a : Int)) = (m2 : Int) := wrapN (by omega) (by omega)
              have hnq : n2 ≤ 2 ^ 32 := by omega
              have hmm : m2 < 2 ^ 33 := by omega
              have hmr : r2 + 2 ^ 31 ≤ m2 := by omega
              have hP64 : q2 < 2 ^ 32 → P2 < 2 ^ 64 := fun g => by
                have := Nat.mul_le_mul (show q2 ≤ 2 ^ 32 - 1 by omega) (show b ≤ 2 ^ 32 - 1 by omega)
                omega
              clear d1 d2 hn2 hm2
              by_cases hfar : 2 ^ 32 ≤ m2
              · have cf : ((4294967296 : Int) ≤ (m2 : Int)) = True := eq_true (by omega)
                have E := Lib.hid (guess_end HYab.out D2.out (guess_far b32 hnq hfar))
                have MO := Lib.hid D2.out.more
                rcases hgo with g | ⟨g, g2⟩
                · have ca : ((4294967296 : Int) ≤ (q2 : Int)) = True := eq_true (by omega)
                  clear hP2 hS2 hW2 hP64
                  have hd2 := guess_digit E.out M2.out V2.out
                  obtain ⟨qY2, hqY2⟩ : ∃ x : Nat, n2 * Y = x := ⟨_, rfl⟩
                  obtain ⟨T2, hT2⟩ : ∃ x : Nat, u2 * 2 ^ 32 + v0 = x := ⟨_, rfl⟩
                  obtain ⟨u3, hu3⟩ : ∃ x : Nat, T2 - qY2 = x := ⟨_, rfl⟩
                  have e1 := E.out
                  have e2 := MO.out
                  have e3 := M2.out
                  have e4 := HD.out
                  rw [hqY2, hT2] at e1
                  rw [Nat.add_mul, Nat.one_mul, hqY2, hT2] at e2
                  have hTT : T2 = qY2 + u3 := by omega
                  have hu3Y : u3 < Y := by omega
                  have y1_ : IntKind.u64.wrap ((n1 : Int) * 4294967296) = ((n1 * 2 ^ 32 : Nat) : Int) := wrapN (by omega) (by omega)
                  have y2_ : IntKind.u64.wrap (((n1 * 2 ^ 32 : Nat) : Int) + (n2 : Int)) = ((n1 * 2 ^ 32 + n2 : Nat) : Int) := wrapN (by omega) (by omega)
                  obtain ⟨k1, hk1⟩ : ∃ x : Nat, n1 * 2 ^ 32 = x := ⟨_, rfl⟩
                  rw [hk1] at y1_ y2_
                  obtain ⟨k2, hk2⟩ : ∃ x : Nat, k1 + n2 = x := ⟨_, rfl⟩
                  rw [hk2] at y2_
                  have y3_ : IntKind.u64.wrap ((u2 : Int) * 4294967296) = ((u2 * 2 ^ 32 % 2 ^ 64 : Nat) : Int) := by rw [wrap_mod64]; omega
                  obtain ⟨k3, hk3⟩ : ∃ x : Nat, u2 * 2 ^ 32 % 2 ^ 64 = x := ⟨_, rfl⟩
                  rw [hk3] at y3_
                  have y4_ : IntKind.u64.wrap ((k3 : Int) + (v0 : Int)) = (((k3 + v0) % 2 ^ 64 : Nat) : Int) := by rw [wrap_mod64]; omega
                  obtain ⟨k4, hk4⟩ : ∃ x : Nat, (k3 + v0) % 2 ^ 64 = x := ⟨_, rfl⟩
                  rw [hk4] at y4_
                  have y5_ : IntKind.u64.wrap ((n2 : Int) * (Y : Int)) = ((qY2 % 2 ^ 64 : Nat) : Int) := by rw [wrap_mod64, ← hqY2]; simp
                  obtain ⟨k5, hk5⟩ : ∃ x : Nat, qY2 % 2 ^ 64 = x := ⟨_, rfl⟩
                  rw [hk5] at y5_
                  have y6_ : IntKind.u64.wrap ((k4 : Int) - (k5 : Int)) = (u3 : Int) := by rw [wrap_mod64]; omega
                  have y7_ : (u3 : Int) / 2 ^ s = ((u3 / 2 ^ s : Nat) : Int) := by simp
                  obtain ⟨k6, hk6⟩ : ∃ x : Nat, u3 / 2 ^ s = x := ⟨_, rfl⟩
                  rw [hk6] at y7_
                  have HE := Lib.hid (show k2 = (h * 2 ^ 64 + l) / y ∧ k6 = (h * 2 ^ 64 + l) % y by
                    rw [← hk6, ← hk2, ← hk1]
                    exact digits_two HYs.out.symm (by omega) (by rw [HM.out, HLV.out]) HT.out (by rw [hqY2, hT2]; exact hTT) hu3Y)
                  clear e1 e2 e3 e4 hTT hk1 hk2 hk3 hk4 hk5 hk6 hqY2 hT2 hu3
                  go_wp2
                  refine bodyPost_ret (v := .tuple #[.int .u64 (k2 : Int), .int .u64 (k6 : Int)]) (by simp [results, Try.results76, go_sem]) rfl ⟨by rw [HE.out.1, HE.out.2]; simp, Below.refl _ _⟩
                · have ca : ((4294967296 : Int) ≤ (q2 : Int)) = False := eq_false (by omega)
                  have wP : IntKind.u64.wrap ((q2 : Int) * (b : Int)) = (P2 : Int) := wrapN (by rw [← hP2]; simp) (hP64 g)
                  have cb : ((S2 : Int) < (P2 : Int)) = True := eq_true (by omega)
                  clear hP2 hS2 hW2 hP64
                  have hd2 := guess_digit E.out M2.out V2.out
                  obtain ⟨qY2, hqY2⟩ : ∃ x : Nat, n2 * Y = x := ⟨_, rfl⟩
                  obtain ⟨T2, hT2⟩ : ∃ x : Nat, u2 * 2 ^ 32 + v0 = x := ⟨_, rfl⟩
                  obtain ⟨u3, hu3⟩ : ∃ x : Nat, T2 - qY2 = x := ⟨_, rfl⟩
                  have e1 := E.out
                  have e2 := MO.out
                  have e3 := M2.out
                  have e4 := HD.out
                  rw [hqY2, hT2] at e1
                  rw [Nat.add_mul, Nat.one_mul, hqY2, hT2] at e2
                  have hTT : T2 = qY2 + u3 := by omega
                  have hu3Y : u3 < Y := by omega
                  have y1_ : IntKind.u64.wrap ((n1 : Int) * 4294967296) = ((n1 * 2 ^ 32 : Nat) : Int) := wrapN (by omega) (by omega)
                  have y2_ : IntKind.u64.wrap (((n1 * 2 ^ 32 : Nat) : Int) + (n2 : Int)) = ((n1 * 2 ^ 32 + n2 : Nat) : Int) := wrapN (by omega) (by omega)
                  obtain ⟨k1, hk1⟩ : ∃ x : Nat, n1 * 2 ^ 32 = x := ⟨_, rfl⟩
                  rw [hk1] at y1_ y2_
                  obtain ⟨k2, hk2⟩ : ∃ x : Nat, k1 + n2 = x := ⟨_, rfl⟩
                  rw [hk2] at y2_
                  have y3_ : IntKind.u64.wrap ((u2 : Int) * 4294967296) = ((u2 * 2 ^ 32 % 2 ^ 64 : Nat) : Int) := by rw [wrap_mod64]; omega
                  obtain ⟨k3, hk3⟩ : ∃ x : Nat, u2 * 2 ^ 32 % 2 ^ 64 = x := ⟨_, rfl⟩
                  rw [hk3] at y3_
                  have y4_ : IntKind.u64.wrap ((k3 : Int) + (v0 : Int)) = (((k3 + v0) % 2 ^ 64 : Nat) : Int) := by rw [wrap_mod64]; omega
                  obtain ⟨k4, hk4⟩ : ∃ x : Nat, (k3 + v0) % 2 ^ 64 = x := ⟨_, rfl⟩
                  rw [hk4] at y4_
                  have y5_ : IntKind.u64.wrap ((n2 : Int) * (Y : Int)) = ((qY2 % 2 ^ 64 : Nat) : Int) := by rw [wrap_mod64, ← hqY2]; simp
                  obtain ⟨k5, hk5⟩ : ∃ x : Nat, qY2 % 2 ^ 64 = x := ⟨_, rfl⟩
                  rw [hk5] at y5_
                  have y6_ : IntKind.u64.wrap ((k4 : Int) - (k5 : Int)) = (u3 : Int) := by rw [wrap_mod64]; omega
                  have y7_ : (u3 : Int) / 2 ^ s = ((u3 / 2 ^ s : Nat) : Int) := by simp
                  obtain ⟨k6, hk6⟩ : ∃ x : Nat, u3 / 2 ^ s = x := ⟨_, rfl⟩
                  rw [hk6] at y7_
                  have HE := Lib.hid (show k2 = (h * 2 ^ 64 + l) / y ∧ k6 = (h * 2 ^ 64 + l) % y by
                    rw [← hk6, ← hk2, ← hk1]
                    exact digits_two HYs.out.symm (by omega) (by rw [HM.out, HLV.out]) HT.out (by rw [hqY2, hT2]; exact hTT) hu3Y)
                  clear e1 e2 e3 e4 hTT hk1 hk2 hk3 hk4 hk5 hk6 hqY2 hT2 hu3
                  go_wp2
                  refine bodyPost_ret (v := .tuple #[.int .u64 (k2 : Int), .int .u64 (k6 : Int)]) (by simp [results, Try.results76, go_sem]) rfl ⟨by rw [HE.out.1, HE.out.2]; simp, Below.refl _ _⟩
              · have cf : ((4294967296 : Int) ≤ (m2 : Int)) = False := eq_false (by omega)
                rcases hgo with g | ⟨g, g2⟩
                · have ca : ((4294967296 : Int) ≤ (q2 : Int)) = True := eq_true (by omega)
                  clear hP2 hS2 hW2 hP64
                  go_wp2
                  go_round
                  case rel => exact ⟨n2, m2, rfl, rfl, by omega, by omega, D2⟩
                  case measure => simp [intOf]; omega
                · have ca : ((4294967296 : Int) ≤ (q2 : Int)) = False := eq_false (by omega)
                  have wP : IntKind.u64.wrap ((q2 : Int) * (b : Int)) = (P2 : Int) := wrapN (by rw [← hP2]; simp) (hP64 g)
                  have cb : ((S2 : Int) < (P2 : Int)) = True := eq_true (by omega)
                  clear hP2 hS2 hW2 hP64
                  go_wp2
                  go_round
                  case rel => exact ⟨n2, m2, rfl, rfl, by omega, by omega, D2⟩
                  case measure => simp [intOf]; omega
            · have E := Lib.hid (guess_end HYab.out G2.out (by omega))
              have MO := Lib.hid G2.out.more
              have hP64 : P2 < 2 ^ 64 := by omega
              have ca : ((4294967296 : Int) ≤ (q2 : Int)) = False := eq_false (by omega)
              have wP : IntKind.u64.wrap ((q2 : Int) * (b : Int)) = (P2 : Int) := wrapN (by rw [← hP2]; simp) hP64
              have cb : ((S2 : Int) < (P2 : Int)) = False := eq_false (by omega)
              clear hP2 hS2 hW2 hP64
              have hd2 := guess_digit E.out M2.out V2.out
              obtain ⟨qY2, hqY2⟩ : ∃ x : Nat, q2 * Y = x := ⟨_, rfl⟩
              obtain ⟨T2, hT2⟩ : ∃ x : Nat, u2 * 2 ^ 32 + v0 = x := ⟨_, rfl⟩
              obtain ⟨u3, hu3⟩ : ∃ x : Nat, T2 - qY2 = x := ⟨_, rfl⟩
              have e1 := E.out
              have e2 := MO.out
              have e3 := M2.out
              have e4 := HD.out
              rw [hqY2, hT2] at e1
              rw [Nat.add_mul, Nat.one_mul, hqY2, hT2] at e2
              have hTT : T2 = qY2 + u3 := by omega
              have hu3Y : u3 < Y := by omega
              have y1_ : IntKind.u64.wrap ((n1 : Int) * 4294967296) = ((n1 * 2 ^ 32 : Nat) : Int) := wrapN (by omega) (by omega)
              have y2_ : IntKind.u64.wrap (((n1 * 2 ^ 32 : Nat) : Int) + (q2 : Int)) = ((n1 * 2 ^ 32 + q2 : Nat) : Int) := wrapN (by omega) (by omega)
              obtain ⟨k1, hk1⟩ : ∃ x : Nat, n1 * 2 ^ 32 = x := ⟨_, rfl⟩
              rw [hk1] at y1_ y2_
              obtain ⟨k2, hk2⟩ : ∃ x : Nat, k1 + q2 = x := ⟨_, rfl⟩
              rw [hk2] at y2_
              have y3_ : IntKind.u64.wrap ((u2 : Int) * 4294967296) = ((u2 * 2 ^ 32 % 2 ^ 64 : Nat) : Int) := by rw [wrap_mod64]; omega
              obtain ⟨k3, hk3⟩ : ∃ x : Nat, u2 * 2 ^ 32 % 2 ^ 64 = x := ⟨_, rfl⟩
              rw [hk3] at y3_
              have y4_ : IntKind.u64.wrap ((k3 : Int) + (v0 : Int)) = (((k3 + v0) % 2 ^ 64 : Nat) : Int) := by rw [wrap_mod64]; omega
              obtain ⟨k4, hk4⟩ : ∃ x : Nat, (k3 + v0) % 2 ^ 64 = x := ⟨_, rfl⟩
              rw [hk4] at y4_
              have y5_ : IntKind.u64.wrap ((q2 : Int) * (Y : Int)) = ((qY2 % 2 ^ 64 : Nat) : Int) := by rw [wrap_mod64, ← hqY2]; simp
              obtain ⟨k5, hk5⟩ : ∃ x : Nat, qY2 % 2 ^ 64 = x := ⟨_, rfl⟩
              rw [hk5] at y5_
              have y6_ : IntKind.u64.wrap ((k4 : Int) - (k5 : Int)) = (u3 : Int) := by rw [wrap_mod64]; omega
              have y7_ : (u3 : Int) / 2 ^ s = ((u3 / 2 ^ s : Nat) : Int) := by simp
              obtain ⟨k6, hk6⟩ : ∃ x : Nat, u3 / 2 ^ s = x := ⟨_, rfl⟩
              rw [hk6] at y7_
              have HE := Lib.hid (show k2 = (h * 2 ^ 64 + l) / y ∧ k6 = (h * 2 ^ 64 + l) % y by
                rw [← hk6, ← hk2, ← hk1]
                exact digits_two HYs.out.symm (by omega) (by rw [HM.out, HLV.out]) HT.out (by rw [hqY2, hT2]; exact hTT) hu3Y)
              clear e1 e2 e3 e4 hTT hk1 hk2 hk3 hk4 hk5 hk6 hqY2 hT2 hu3
              go_wp2
              refine bodyPost_ret (v := .tuple #[.int .u64 (k2 : Int), .int .u64 (k6 : Int)]) (by simp [results, Try.results76, go_sem]) rfl ⟨by rw [HE.out.1, HE.out.2]; simp, Below.refl _ _⟩
        · have ca : ((4294967296 : Int) ≤ (q1 : Int)) = False := eq_false (by omega)
          have wP : IntKind.u64.wrap ((q1 : Int) * (b : Int)) = (P1 : Int) := wrapN (by rw [← hP1]; simp) (hP64 g)
          have cb : ((S1 : Int) < (P1 : Int)) = True := eq_true (by omega)
          clear hP1 hS1 hW1 hP64
          have hd := guess_digit E.out M1.out V1.out
          obtain ⟨qY, hqY⟩ : ∃ x : Nat, n1 * Y = x := ⟨_, rfl⟩
          obtain ⟨T1, hT1⟩ : ∃ x : Nat, u * 2 ^ 32 + v1 = x := ⟨_, rfl⟩
          obtain ⟨u2, hu2⟩ : ∃ x : Nat, T1 - qY = x := ⟨_, rfl⟩
          have e1 := E.out
          have e2 := MO.out
          have e3 := M1.out
          rw [hqY, hT1] at e1
          rw [Nat.add_mul, Nat.one_mul, hqY, hT1] at e2
          have hT : T1 = qY + u2 := by omega
          have hu2Y : u2 < Y := by omega
          have x1 : IntKind.u64.wrap ((u : Int) * 4294967296) = ((u * 2 ^ 32 % 2 ^ 64 : Nat) : Int) := by rw [wrap_mod64]; omega
          obtain ⟨z1, hz1⟩ : ∃ x : Nat, u * 2 ^ 32 % 2 ^ 64 = x := ⟨_, rfl⟩
          rw [hz1] at x1
          have x2 : IntKind.u64.wrap ((z1 : Int) + (v1 : Int)) = (((z1 + v1) % 2 ^ 64 : Nat) : Int) := by rw [wrap_mod64]; omega
          obtain ⟨z2, hz2⟩ : ∃ x : Nat, (z1 + v1) % 2 ^ 64 = x := ⟨_, rfl⟩
          rw [hz2] at x2
          have x3 : IntKind.u64.wrap ((n1 : Int) * (Y : Int)) = ((qY % 2 ^ 64 : Nat) : Int) := by rw [wrap_mod64, ← hqY]; simp
          obtain ⟨z3, hz3⟩ : ∃ x : Nat, qY % 2 ^ 64 = x := ⟨_, rfl⟩
          rw [hz3] at x3
          have x4 : IntKind.u64.wrap ((z2 : Int) - (z3 : Int)) = (u2 : Int) := by rw [wrap_mod64]; omega
          obtain ⟨g3, g4⟩ := guess_start HYab.out a31 b32 hu2Y V0.out
          obtain ⟨qb, hqb⟩ : ∃ x : Nat, u2 / a = x := ⟨_, rfl⟩
          obtain ⟨rb, hrb⟩ : ∃ x : Nat, u2 % a = x := ⟨_, rfl⟩
          obtain ⟨pb, hpb⟩ : ∃ x : Nat, qb * a = x := ⟨_, rfl⟩
          rw [hqb, hrb] at g3
          rw [hqb] at g4
          have hrba : rb < a := by rw [← hrb]; exact Nat.mod_lt _ (by omega)
          have hpr : pb + rb = u2 := by have := g3.left; omega
          have x5 : (u2 : Int) / (a : Int) = (qb : Int) := by rw [← hqb]; simp
          have x6 : IntKind.u64.wrap (qb : Int) = (qb : Int) := wrapN rfl (by omega)
          have x7 : IntKind.u64.wrap ((qb : Int) * (a : Int)) = (pb : Int) := wrapN (by rw [← hpb]; simp) (by omega)
          have x8 : IntKind.u64.wrap ((u2 : Int) - (pb : Int)) = (rb : Int) := wrapN (by omega) (by omega)
          have G2s := Lib.hid g3
          have M2 := Lib.hid hu2Y
          have V2 := V0
          have HT := Lib.hid (show u * 2 ^ 32 + v1 = n1 * Y + u2 by rw [hqY, hT1]; exact hT)
          have HD := Lib.hid hd
          clear e1 e2 e3 hT hz1 hz2 hz3 hqY hT1 hu2 hqb hrb hpb g3 hd
          go_wp2
          go_loop [18, 16] (fun x z => ∃ (qq rr : Nat), x = .int .u64 (qq : Int) ∧ z = .int .u64 (rr : Int) ∧ rr < 2 ^ 32 ∧ qq ≤ 2 ^ 32 + 1 ∧ Hid (Guess Y a b u2 v0 qq rr)) (fun _ z => 8589934592 - (intOf z).toNat)
          case atStart => exact ⟨qb, rb, rfl, rfl, by omega, (by first | omega | exact G2.out), G2s⟩
          case round =>
            obtain ⟨q2, r2, rfl, rfl, hr2, hq2, G2⟩ := hrel
            have HR2 := Lib.hid hr2
            have HQ2 := Lib.hid hq2
            obtain ⟨P2, hP2⟩ : ∃ P : Nat, q2 * b = P := ⟨_, rfl⟩
            obtain ⟨S2, hS2⟩ : ∃ S : Nat, 2 ^ 32 * r2 + v0 = S := ⟨_, rfl⟩
            have wS1 : IntKind.u64.wrap (4294967296 * (r2 : Int)) = ((2 ^ 32 * r2 : Nat) : Int) := wrapN (by omega) (by omega)
            have wS2 : IntKind.u64.wrap (((2 ^ 32 * r2 : Nat) : Int) + (v0 : Int)) = (S2 : Int) := wrapN (by omega) (by omega)
            obtain ⟨W2, hW2⟩ : ∃ W : Nat, 2 ^ 32 * r2 = W := ⟨_, rfl⟩
            rw [hW2] at wS1 wS2
            have cases_ : (2 ^ 32 ≤ q2 ∨ (q2 < 2 ^ 32 ∧ S2 < P2)) ∨ (q2 < 2 ^ 32 ∧ P2 ≤ S2) := by omega
            rcases cases_ with hgo | hstop
            · obtain ⟨d1, d2⟩ := guess_down HYab.out M2.out V2.out G2.out (by rcases hgo with g | g; exact .inl g; exact .inr (by omega))
              obtain ⟨n2, hn2⟩ : ∃ n : Nat, q2 - 1 = n := ⟨_, rfl⟩
              obtain ⟨m2, hm2⟩ : ∃ m : Nat, r2 + a = m := ⟨_, rfl⟩
              rw [hn2, hm2] at d2
              have D2 := Lib.hid d2
              have wn : IntKind.u64.wrap ((q2 : Int) - 1) = (n2 : Int) := wrapN (by omega) (by omega)
              have wm : IntKind.u64.wrap ((r2 : Int) + (a : Int)) = (m2 : Int) := wrapN (by omega) (by omega)
              have hnq : n2 ≤ 2 ^ 32 := by omega
              have hmm : m2 < 2 ^ 33 := by omega
              have hmr : r2 + 2 ^ 31 ≤ m2 := by omega
              have hP64 : q2 < 2 ^ 32 → P2 < 2 ^ 64 := fun g => by
                have := Nat.mul_le_mul (show q2 ≤ 2 ^ 32 - 1 by omega) (show b ≤ 2 ^ 32 - 1 by omega)
                omega
              clear d1 d2 hn2 hm2
              by_cases hfar : 2 ^ 32 ≤ m2
              · have cf : ((4294967296 : Int) ≤ (m2 : Int)) = True := eq_true (by omega)
                have E := Lib.hid (guess_end HYab.out D2.out (guess_far b32 hnq hfar))
                have MO := Lib.hid D2.out.more
                rcases hgo with g | ⟨g, g2⟩
                · have ca : ((4294967296 : Int) ≤ (q2 : Int)) = True := eq_true (by omega)
                  clear hP2 hS2 hW2 hP64
                  have hd2 := guess_digit E.out M2.out V2.out
                  obtain ⟨qY2, hqY2⟩ : ∃ x : Nat, n2 * Y = x := ⟨_, rfl⟩
                  obtain ⟨T2, hT2⟩ : ∃ x : Nat, u2 * 2 ^ 32 + v0 = x := ⟨_, rfl⟩
                  obtain ⟨u3, hu3⟩ : ∃ x : Nat, T2 - qY2 = x := ⟨_, rfl⟩
                  have e1 := E.out
                  have e2 := MO.out
                  have e3 := M2.out
                  have e4 := HD.out
                  rw [hqY2, hT2] at e1
                  rw [Nat.add_mul, Nat.one_mul, hqY2, hT2] at e2
                  have hTT : T2 = qY2 + u3 := by omega
                  have hu3Y : u3 < Y := by omega
                  have y1_ : IntKind.u64.wrap ((n1 : Int) * 4294967296) = ((n1 * 2 ^ 32 : Nat) : Int) := wrapN (by omega) (by omega)
                  have y2_ : IntKind.u64.wrap (((n1 * 2 ^ 32 : Nat) : Int) + (n2 : Int)) = ((n1 * 2 ^ 32 + n2 : Nat) : Int) := wrapN (by omega) (by omega)
                  obtain ⟨k1, hk1⟩ : ∃ x : Nat, n1 * 2 ^ 32 = x := ⟨_, rfl⟩
                  rw [hk1] at y1_ y2_
                  obtain ⟨k2, hk2⟩ : ∃ x : Nat, k1 + n2 = x := ⟨_, rfl⟩
                  rw [hk2] at y2_
                  have y3_ : IntKind.u64.wrap ((u2 : Int) * 4294967296) = ((u2 * 2 ^ 32 % 2 ^ 64 : Nat) : Int) := by rw [wrap_mod64]; omega
                  obtain ⟨k3, hk3⟩ : ∃ x : Nat, u2 * 2 ^ 32 % 2 ^ 64 = x := ⟨_, rfl⟩
                  rw [hk3] at y3_
                  have y4_ : IntKind.u64.wrap ((k3 : Int) + (v0 : Int)) = (((k3 + v0) % 2 ^ 64 : Nat) : Int) := by rw [wrap_mod64]; omega
                  obtain ⟨k4, hk4⟩ : ∃ x : Nat, (k3 + v0) % 2 ^ 64 = x := ⟨_, rfl⟩
                  rw [hk4] at y4_
                  have y5_ : IntKind.u64.wrap ((n2 : Int) * (Y : Int)) = ((qY2 % 2 ^ 64 : Nat) : Int) := by rw [wrap_mod64, ← hqY2]; simp
                  obtain ⟨k5, hk5⟩ : ∃ x : Nat, qY2 % 2 ^ 64 = x := ⟨_, rfl⟩
                  rw [hk5] at y5_
                  have y6_ : IntKind.u64.wrap ((k4 : Int) - (k5 : Int)) = (u3 : Int) := by rw [wrap_mod64]; omega
                  have y7_ : (u3 : Int) / 2 ^ s = ((u3 / 2 ^ s : Nat) : Int) := by simp
                  obtain ⟨k6, hk6⟩ : ∃ x : Nat, u3 / 2 ^ s = x := ⟨_, rfl⟩
                  rw [hk6] at y7_
                  have HE := Lib.hid (show k2 = (h * 2 ^ 64 + l) / y ∧ k6 = (h * 2 ^ 64 + l) % y by
                    rw [← hk6, ← hk2, ← hk1]
                    exact digits_two HYs.out.symm (by omega) (by rw [HM.out, HLV.out]) HT.out (by rw [hqY2, hT2]; exact hTT) hu3Y)
                  clear e1 e2 e3 e4 hTT hk1 hk2 hk3 hk4 hk5 hk6 hqY2 hT2 hu3
                  go_wp2
                  refine bodyPost_ret (v := .tuple #[.int .u64 (k2 : Int), .int .u64 (k6 : Int)]) (by simp [results, Try.results76, go_sem]) rfl ⟨by rw [HE.out.1, HE.out.2]; simp, Below.refl _ _⟩
                · have ca : ((4294967296 : Int) ≤ (q2 : Int)) = False := eq_false (by omega)
                  have wP : IntKind.u64.wrap ((q2 : Int) * (b : Int)) = (P2 : Int) := wrapN (by rw [← hP2]; simp) (hP64 g)
                  have cb : ((S2 : Int) < (P2 : Int)) = True := eq_true (by omega)
                  clear hP2 hS2 hW2 hP64
                  have hd2 := guess_digit E.out M2.out V2.out
                  obtain ⟨qY2, hqY2⟩ : ∃ x : Nat, n2 * Y = x := ⟨_, rfl⟩
                  obtain ⟨T2, hT2⟩ : ∃ x : Nat, u2 * 2 ^ 32 + v0 = x := ⟨_, rfl⟩
                  obtain ⟨u3, hu3⟩ : ∃ x : Nat, T2 - qY2 = x := ⟨_, rfl⟩
                  have e1 := E.out
                  have e2 := MO.out
                  have e3 := M2.out
                  have e4 := HD.out
                  rw [hqY2, hT2] at e1
                  rw [Nat.add_mul, Nat.one_mul, hqY2, hT2] at e2
                  have hTT : T2 = qY2 + u3 := by omega
                  have hu3Y : u3 < Y := by omega
                  have y1_ : IntKind.u64.wrap ((n1 : Int) * 4294967296) = ((n1 * 2 ^ 32 : Nat) : Int) := wrapN (by omega) (by omega)
                  have y2_ : IntKind.u64.wrap (((n1 * 2 ^ 32 : Nat) : Int) + (n2 : Int)) = ((n1 * 2 ^ 32 + n2 : Nat) : Int) := wrapN (by omega) (by omega)
                  obtain ⟨k1, hk1⟩ : ∃ x : Nat, n1 * 2 ^ 32 = x := ⟨_, rfl⟩
                  rw [hk1] at y1_ y2_
                  obtain ⟨k2, hk2⟩ : ∃ x : Nat, k1 + n2 = x := ⟨_, rfl⟩
                  rw [hk2] at y2_
                  have y3_ : IntKind.u64.wrap ((u2 : Int) * 4294967296) = ((u2 * 2 ^ 32 % 2 ^ 64 : Nat) : Int) := by rw [wrap_mod64]; omega
                  obtain ⟨k3, hk3⟩ : ∃ x : Nat, u2 * 2 ^ 32 % 2 ^ 64 = x := ⟨_, rfl⟩
                  rw [hk3] at y3_
                  have y4_ : IntKind.u64.wrap ((k3 : Int) + (v0 : Int)) = (((k3 + v0) % 2 ^ 64 : Nat) : Int) := by rw [wrap_mod64]; omega
                  obtain ⟨k4, hk4⟩ : ∃ x : Nat, (k3 + v0) % 2 ^ 64 = x := ⟨_, rfl⟩
                  rw [hk4] at y4_
                  have y5_ : IntKind.u64.wrap ((n2 : Int) * (Y : Int)) = ((qY2 % 2 ^ 64 : Nat) : Int) := by rw [wrap_mod64, ← hqY2]; simp
                  obtain ⟨k5, hk5⟩ : ∃ x : Nat, qY2 % 2 ^ 64 = x := ⟨_, rfl⟩
                  rw [hk5] at y5_
                  have y6_ : IntKind.u64.wrap ((k4 : Int) - (k5 : Int)) = (u3 : Int) := by rw [wrap_mod64]; omega
                  have y7_ : (u3 : Int) / 2 ^ s = ((u3 / 2 ^ s : Nat) : Int) := by simp
                  obtain ⟨k6, hk6⟩ : ∃ x : Nat, u3 / 2 ^ s = x := ⟨_, rfl⟩
                  rw [hk6] at y7_
                  have HE := Lib.hid (show k2 = (h * 2 ^ 64 + l) / y ∧ k6 = (h * 2 ^ 64 + l) % y by
                    rw [← hk6, ← hk2, ← hk1]
                    exact digits_two HYs.out.symm (by omega) (by rw [HM.out, HLV.out]) HT.out (by rw [hqY2, hT2]; exact hTT) hu3Y)
                  clear e1 e2 e3 e4 hTT hk1 hk2 hk3 hk4 hk5 hk6 hqY2 hT2 hu3
                  go_wp2
                  refine bodyPost_ret (v := .tuple #[.int .u64 (k2 : Int), .int .u64 (k6 : Int)]) (by simp [results, Try.results76, go_sem]) rfl ⟨by rw [HE.out.1, HE.out.2]; simp, Below.refl _ _⟩
              · have cf : ((4294967296 : Int) ≤ (m2 : Int)) = False := eq_false (by omega)
                rcases hgo with g | ⟨g, g2⟩
                · have ca : ((4294967296 : Int) ≤ (q2 : Int)) = True := eq_true (by omega)
                  clear hP2 hS2 hW2 hP64
                  go_wp2
                  go_round
                  case rel => exact ⟨n2, m2, rfl, rfl, by omega, by omega, D2⟩
                  case measure => simp [intOf]; omega
                · have ca : ((4294967296 : Int) ≤ (q2 : Int)) = False := eq_false (by omega)
                  have wP : IntKind.u64.wrap ((q2 : Int) * (b : Int)) = (P2 : Int) := wrapN (by rw [← hP2]; simp) (hP64 g)
                  have cb : ((S2 : Int) < (P2 : Int)) = True := eq_true (by omega)
                  clear hP2 hS2 hW2 hP64
                  go_wp2
                  go_round
                  case rel => exact ⟨n2, m2, rfl, rfl, by omega, by omega, D2⟩
                  case measure => simp [intOf]; omega
            · have E := Lib.hid (guess_end HYab.out G2.out (by omega))
              have MO := Lib.hid G2.out.more
              have hP64 : P2 < 2 ^ 64 := by omega
              have ca : ((4294967296 : Int) ≤ (q2 : Int)) = False := eq_false (by omega)
              have wP : IntKind.u64.wrap ((q2 : Int) * (b : Int)) = (P2 : Int) := wrapN (by rw [← hP2]; simp) hP64
              have cb : ((S2 : Int) < (P2 : Int)) = False := eq_false (by omega)
              clear hP2 hS2 hW2 hP64
              have hd2 := guess_digit E.out M2.out V2.out
              obtain ⟨qY2, hqY2⟩ : ∃ x : Nat, q2 * Y = x := ⟨_, rfl⟩
              obtain ⟨T2, hT2⟩ : ∃ x : Nat, u2 * 2 ^ 32 + v0 = x := ⟨_, rfl⟩
              obtain ⟨u3, hu3⟩ : ∃ x : Nat, T2 - qY2 = x := ⟨_, rfl⟩
              have e1 := E.out
              have e2 := MO.out
              have e3 := M2.out
              have e4 := HD.out
              rw [hqY2, hT2] at e1
              rw [Nat.add_mul, Nat.one_mul, hqY2, hT2] at e2
              have hTT : T2 = qY2 + u3 := by omega
              have hu3Y : u3 < Y := by omega
              have y1_ : IntKind.u64.wrap ((n1 : Int) * 4294967296) = ((n1 * 2 ^ 32 : Nat) : Int) := wrapN (by omega) (by omega)
              have y2_ : IntKind.u64.wrap (((n1 * 2 ^ 32 : Nat) : Int) + (q2 : Int)) = ((n1 * 2 ^ 32 + q2 : Nat) : Int) := wrapN (by omega) (by omega)
              obtain ⟨k1, hk1⟩ : ∃ x : Nat, n1 * 2 ^ 32 = x := ⟨_, rfl⟩
              rw [hk1] at y1_ y2_
              obtain ⟨k2, hk2⟩ : ∃ x : Nat, k1 + q2 = x := ⟨_, rfl⟩
              rw [hk2] at y2_
              have y3_ : IntKind.u64.wrap ((u2 : Int) * 4294967296) = ((u2 * 2 ^ 32 % 2 ^ 64 : Nat) : Int) := by rw [wrap_mod64]; omega
              obtain ⟨k3, hk3⟩ : ∃ x : Nat, u2 * 2 ^ 32 % 2 ^ 64 = x := ⟨_, rfl⟩
              rw [hk3] at y3_
              have y4_ : IntKind.u64.wrap ((k3 : Int) + (v0 : Int)) = (((k3 + v0) % 2 ^ 64 : Nat) : Int) := by rw [wrap_mod64]; omega
              obtain ⟨k4, hk4⟩ : ∃ x : Nat, (k3 + v0) % 2 ^ 64 = x := ⟨_, rfl⟩
              rw [hk4] at y4_
              have y5_ : IntKind.u64.wrap ((q2 : Int) * (Y : Int)) = ((qY2 % 2 ^ 64 : Nat) : Int) := by rw [wrap_mod64, ← hqY2]; simp
              obtain ⟨k5, hk5⟩ : ∃ x : Nat, qY2 % 2 ^ 64 = x := ⟨_, rfl⟩
              rw [hk5] at y5_
              have y6_ : IntKind.u64.wrap ((k4 : Int) - (k5 : Int)) = (u3 : Int) := by rw [wrap_mod64]; omega
              have y7_ : (u3 : Int) / 2 ^ s = ((u3 / 2 ^ s : Nat) : Int) := by simp
              obtain ⟨k6, hk6⟩ : ∃ x : Nat, u3 / 2 ^ s = x := ⟨_, rfl⟩
              rw [hk6] at y7_
              have HE := Lib.hid (show k2 = (h * 2 ^ 64 + l) / y ∧ k6 = (h * 2 ^ 64 + l) % y by
                rw [← hk6, ← hk2, ← hk1]
                exact digits_two HYs.out.symm (by omega) (by rw [HM.out, HLV.out]) HT.out (by rw [hqY2, hT2]; exact hTT) hu3Y)
              clear e1 e2 e3 e4 hTT hk1 hk2 hk3 hk4 hk5 hk6 hqY2 hT2 hu3
              go_wp2
              refine bodyPost_ret (v := .tuple #[.int .u64 (k2 : Int), .int .u64 (k6 : Int)]) (by simp [results, Try.results76, go_sem]) rfl ⟨by rw [HE.out.1, HE.out.2]; simp, Below.refl _ _⟩
      · have cf : ((4294967296 : Int) ≤ (m1 : Int)) = False := eq_false (by omega)
        rcases hgo with g | ⟨g, g2⟩
        · have ca : ((4294967296 : Int) ≤ (q1 : Int)) = True := eq_true (by omega)
          clear hP1 hS1 hW1 hP64
          go_wp2
          go_round
          case rel => exact ⟨n1, m1, rfl, rfl, by omega, by omega, D2⟩
          case measure => simp [intOf]; omega
        · have ca : ((4294967296 : Int) ≤ (q1 : Int)) = False := eq_false (by omega)
          have wP : IntKind.u64.wrap ((q1 : Int) * (b : Int)) = (P1 : Int) := wrapN (by rw [← hP1]; simp) (hP64 g)
          have cb : ((S1 : Int) < (P1 : Int)) = True := eq_true (by omega)
          clear hP1 hS1 hW1 hP64
          go_wp2
          go_round
          case rel => exact ⟨n1, m1, rfl, rfl, by omega, by omega, D2⟩
          case measure => simp [intOf]; omega
    · have E := Lib.hid (guess_end HYab.out G1.out (by omega))
      have MO := Lib.hid G1.out.more
      have hP64 : P1 < 2 ^ 64 := by omega
      have ca : ((4294967296 : Int) ≤ (q1 : Int)) = False := eq_false (by omega)
      have wP : IntKind.u64.wrap ((q1 : Int) * (b : Int)) = (P1 : Int) := wrapN (by rw [← hP1]; simp) hP64
      have cb : ((S1 : Int) < (P1 : Int)) = False := eq_false (by omega)
      clear hP1 hS1 hW1 hP64
      have hd := guess_digit E.out M1.out V1.out
      obtain ⟨qY, hqY⟩ : ∃ x : Nat, q1 * Y = x := ⟨_, rfl⟩
      obtain ⟨T1, hT1⟩ : ∃ x : Nat, u * 2 ^ 32 + v1 = x := ⟨_, rfl⟩
      obtain ⟨u2, hu2⟩ : ∃ x : Nat, T1 - qY = x := ⟨_, rfl⟩
      have e1 := E.out
      have e2 := MO.out
      have e3 := M1.out
      rw [hqY, hT1] at e1
      rw [Nat.add_mul, Nat.one_mul, hqY, hT1] at e2
      have hT : T1 = qY + u2 := by omega
      have hu2Y : u2 < Y := by omega
      have x1 : IntKind.u64.wrap ((u : Int) * 4294967296) = ((u * 2 ^ 32 % 2 ^ 64 : Nat) : Int) := by rw [wrap_mod64]; omega
      obtain ⟨z1, hz1⟩ : ∃ x : Nat, u * 2 ^ 32 % 2 ^ 64 = x := ⟨_, rfl⟩
      rw [hz1] at x1
      have x2 : IntKind.u64.wrap ((z1 : Int) + (v1 : Int)) = (((z1 + v1) % 2 ^ 64 : Nat) : Int) := by rw [wrap_mod64]; omega
      obtain ⟨z2, hz2⟩ : ∃ x : Nat, (z1 + v1) % 2 ^ 64 = x := ⟨_, rfl⟩
      rw [hz2] at x2
      have x3 : IntKind.u64.wrap ((q1 : Int) * (Y : Int)) = ((qY % 2 ^ 64 : Nat) : Int) := by rw [wrap_mod64, ← hqY]; simp
      obtain ⟨z3, hz3⟩ : ∃ x : Nat, qY % 2 ^ 64 = x := ⟨_, rfl⟩
      rw [hz3] at x3
      have x4 : IntKind.u64.wrap ((z2 : Int) - (z3 : Int)) = (u2 : Int) := by rw [wrap_mod64]; omega
      obtain ⟨g3, g4⟩ := guess_start HYab.out a31 b32 hu2Y V0.out
      obtain ⟨qb, hqb⟩ : ∃ x : Nat, u2 / a = x := ⟨_, rfl⟩
      obtain ⟨rb, hrb⟩ : ∃ x : Nat, u2 % a = x := ⟨_, rfl⟩
      obtain ⟨pb, hpb⟩ : ∃ x : Nat, qb * a = x := ⟨_, rfl⟩
      rw [hqb, hrb] at g3
      rw [hqb] at g4
      have hrba : rb < a := by rw [← hrb]; exact Nat.mod_lt _ (by omega)
      have hpr : pb + rb = u2 := by have := g3.left; omega
      have x5 : (u2 : Int) / (a : Int) = (qb : Int) := by rw [← hqb]; simp
      have x6 : IntKind.u64.wrap (qb : Int) = (qb : Int) := wrapN rfl (by omega)
      have x7 : IntKind.u64.wrap ((qb : Int) * (a : Int)) = (pb : Int) := wrapN (by rw [← hpb]; simp) (by omega)
      have x8 : IntKind.u64.wrap ((u2 : Int) - (pb : Int)) = (rb : Int) := wrapN (by omega) (by omega)
      have G2s := Lib.hid g3
      have M2 := Lib.hid hu2Y
      have V2 := V0
      have HT := Lib.hid (show u * 2 ^ 32 + v1 = q1 * Y + u2 by rw [hqY, hT1]; exact hT)
      have HD := Lib.hid hd
      clear e1 e2 e3 hT hz1 hz2 hz3 hqY hT1 hu2 hqb hrb hpb g3 hd
      go_wp2
      go_loop [18, 16] (fun x z => ∃ (qq rr : Nat), x = .int .u64 (qq : Int) ∧ z = .int .u64 (rr : Int) ∧ rr < 2 ^ 32 ∧ qq ≤ 2 ^ 32 + 1 ∧ Hid (Guess Y a b u2 v0 qq rr)) (fun _ z => 8589934592 - (intOf z).toNat)
      case atStart => exact ⟨qb, rb, rfl, rfl, by omega, (by first | omega | exact G2.out), G2s⟩
      case round =>
        obtain ⟨q2, r2, rfl, rfl, hr2, hq2, G2⟩ := hrel
        have HR2 := Lib.hid hr2
        have HQ2 := Lib.hid hq2
        obtain ⟨P2, hP2⟩ : ∃ P : Nat, q2 * b = P := ⟨_, rfl⟩
        obtain ⟨S2, hS2⟩ : ∃ S : Nat, 2 ^ 32 * r2 + v0 = S := ⟨_, rfl⟩
        have wS1 : IntKind.u64.wrap (4294967296 * (r2 : Int)) = ((2 ^ 32 * r2 : Nat) : Int) := wrapN (by omega) (by omega)
        have wS2 : IntKind.u64.wrap (((2 ^ 32 * r2 : Nat) : Int) + (v0 : Int)) = (S2 : Int) := wrapN (by omega) (by omega)
        obtain ⟨W2, hW2⟩ : ∃ W : Nat, 2 ^ 32 * r2 = W := ⟨_, rfl⟩
        rw [hW2] at wS1 wS2
        have cases_ : (2 ^ 32 ≤ q2 ∨ (q2 < 2 ^ 32 ∧ S2 < P2)) ∨ (q2 < 2 ^ 32 ∧ P2 ≤ S2) := by omega
        rcases cases_ with hgo | hstop
        · obtain ⟨d1, d2⟩ := guess_down HYab.out M2.out V2.out G2.out (by rcases hgo with g | g; exact .inl g; exact .inr (by omega))
          obtain ⟨n2, hn2⟩ : ∃ n : Nat, q2 - 1 = n := ⟨_, rfl⟩
          obtain ⟨m2, hm2⟩ : ∃ m : Nat, r2 + a = m := ⟨_, rfl⟩
          rw [hn2, hm2] at d2
          have D2 := Lib.hid d2
          have wn : IntKind.u64.wrap ((q2 : Int) - 1) = (n2 : Int) := wrapN (by omega) (by omega)
          have wm : IntKind.u64.wrap ((r2 : Int) + (a : Int)) = (m2 : Int) := wrapN (by omega) (by omega)
          have hnq : n2 ≤ 2 ^ 32 := by omega
          have hmm : m2 < 2 ^ 33 := by omega
          have hmr : r2 + 2 ^ 31 ≤ m2 := by omega
          have hP64 : q2 < 2 ^ 32 → P2 < 2 ^ 64 := fun g => by
            have := Nat.mul_le_mul (show q2 ≤ 2 ^ 32 - 1 by omega) (show b ≤ 2 ^ 32 - 1 by omega)
            omega
          clear d1 d2 hn2 hm2
          by_cases hfar : 2 ^ 32 ≤ m2
          · have cf : ((4294967296 : Int) ≤ (m2 : Int)) = True := eq_true (by omega)
            have E := Lib.hid (guess_end HYab.out D2.out (guess_far b32 hnq hfar))
            have MO := Lib.hid D2.out.more
            rcases hgo with g | ⟨g, g2⟩
            · have ca : ((4294967296 : Int) ≤ (q2 : Int)) = True := eq_true (by omega)
              clear hP2 hS2 hW2 hP64
              have hd2 := guess_digit E.out M2.out V2.out
              obtain ⟨qY2, hqY2⟩ : ∃ x : Nat, n2 * Y = x := ⟨_, rfl⟩
              obtain ⟨T2, hT2⟩ : ∃ x : Nat, u2 * 2 ^ 32 + v0 = x := ⟨_, rfl⟩
              obtain ⟨u3, hu3⟩ : ∃ x : Nat, T2 - qY2 = x := ⟨_, rfl⟩
              have e1 := E.out
              have e2 := MO.out
              have e3 := M2.out
              have e4 := HD.out
              rw [hqY2, hT2] at e1
              rw [Nat.add_mul, Nat.one_mul, hqY2, hT2] at e2
              have hTT : T2 = qY2 + u3 := by omega
              have hu3Y : u3 < Y := by omega
              have y1_ : IntKind.u64.wrap ((q1 : Int) * 4294967296) = ((q1 * 2 ^ 32 : Nat) : Int) := wrapN (by omega) (by omega)
              have y2_ : IntKind.u64.wrap (((q1 * 2 ^ 32 : Nat) : Int) + (n2 : Int)) = ((q1 * 2 ^ 32 + n2 : Nat) : Int) := wrapN (by omega) (by omega)
              obtain ⟨k1, hk1⟩ : ∃ x : Nat, q1 * 2 ^ 32 = x := ⟨_, rfl⟩
              rw [hk1] at y1_ y2_
              obtain ⟨k2, hk2⟩ : ∃ x : Nat, k1 + n2 = x := ⟨_, rfl⟩
              rw [hk2] at y2_
              have y3_ : IntKind.u64.wrap ((u2 : Int) * 4294967296) = ((u2 * 2 ^ 32 % 2 ^ 64 : Nat) : Int) := by rw [wrap_mod64]; omega
              obtain ⟨k3, hk3⟩ : ∃ x : Nat, u2 * 2 ^ 32 % 2 ^ 64 = x := ⟨_, rfl⟩
              rw [hk3] at y3_
              have y4_ : IntKind.u64.wrap ((k3 : Int) + (v0 : Int)) = (((k3 + v0) % 2 ^ 64 : Nat) : Int) := by rw [wrap_mod64]; omega
              obtain ⟨k4, hk4⟩ : ∃ x : Nat, (k3 + v0) % 2 ^ 64 = x := ⟨_, rfl⟩
              rw [hk4] at y4_
              have y5_ : IntKind.u64.wrap ((n2 : Int) * (Y : Int)) = ((qY2 % 2 ^ 64 : Nat) : Int) := by rw [wrap_mod64, ← hqY2]; simp
              obtain ⟨k5, hk5⟩ : ∃ x : Nat, qY2 % 2 ^ 64 = x := ⟨_, rfl⟩
              rw [hk5] at y5_
              have y6_ : IntKind.u64.wrap ((k4 : Int) - (k5 : Int)) = (u3 : Int) := by rw [wrap_mod64]; omega
              have y7_ : (u3 : Int) / 2 ^ s = ((u3 / 2 ^ s : Nat) : Int) := by simp
              obtain ⟨k6, hk6⟩ : ∃ x : Nat, u3 / 2 ^ s = x := ⟨_, rfl⟩
              rw [hk6] at y7_
              have HE := Lib.hid (show k2 = (h * 2 ^ 64 + l) / y ∧ k6 = (h * 2 ^ 64 + l) % y by
                rw [← hk6, ← hk2, ← hk1]
                exact digits_two HYs.out.symm (by omega) (by rw [HM.out, HLV.out]) HT.out (by rw [hqY2, hT2]; exact hTT) hu3Y)
              clear e1 e2 e3 e4 hTT hk1 hk2 hk3 hk4 hk5 hk6 hqY2 hT2 hu3
              go_wp2
              refine bodyPost_ret (v := .tuple #[.int .u64 (k2 : Int), .int .u64 (k6 : Int)]) (by simp [results, Try.results76, go_sem]) rfl ⟨by rw [HE.out.1, HE.out.2]; simp, Below.refl _ _⟩
            · have ca : ((4294967296 : Int) ≤ (q2 : Int)) = False := eq_false (by omega)
              have wP : IntKind.u64.wrap ((q2 : Int) * (b : Int)) = (P2 : Int) := wrapN (by rw [← hP2]; simp) (hP64 g)
              have cb : ((S2 : Int) < (P2 : Int)) = True := eq_true (by omega)
              clear hP2 hS2 hW2 hP64
              have hd2 := guess_digit E.out M2.out V2.out
              obtain ⟨qY2, hqY2⟩ : ∃ x : Nat, n2 * Y = x := ⟨_, rfl⟩
              obtain ⟨T2, hT2⟩ : ∃ x : Nat, u2 * 2 ^ 32 + v0 = x := ⟨_, rfl⟩
              obtain ⟨u3, hu3⟩ : ∃ x : Nat, T2 - qY2 = x := ⟨_, rfl⟩
              have e1 := E.out
              have e2 := MO.out
              have e3 := M2.out
              have e4 := HD.out
              rw [hqY2, hT2] at e1
              rw [Nat.add_mul, Nat.one_mul, hqY2, hT2] at e2
              have hTT : T2 = qY2 + u3 := by omega
              have hu3Y : u3 < Y := by omega
              have y1_ : IntKind.u64.wrap ((q1 : Int) * 4294967296) = ((q1 * 2 ^ 32 : Nat) : Int) := wrapN (by omega) (by omega)
              have y2_ : IntKind.u64.wrap (((q1 * 2 ^ 32 : Nat) : Int) + (n2 : Int)) = ((q1 * 2 ^ 32 + n2 : Nat) : Int) := wrapN (by omega) (by omega)
              obtain ⟨k1, hk1⟩ : ∃ x : Nat, q1 * 2 ^ 32 = x := ⟨_, rfl⟩
              rw [hk1] at y1_ y2_
              obtain ⟨k2, hk2⟩ : ∃ x : Nat, k1 + n2 = x := ⟨_, rfl⟩
              rw [hk2] at y2_
              have y3_ : IntKind.u64.wrap ((u2 : Int) * 4294967296) = ((u2 * 2 ^ 32 % 2 ^ 64 : Nat) : Int) := by rw [wrap_mod64]; omega
              obtain ⟨k3, hk3⟩ : ∃ x : Nat, u2 * 2 ^ 32 % 2 ^ 64 = x := ⟨_, rfl⟩
              rw [hk3] at y3_
              have y4_ : IntKind.u64.wrap ((k3 : Int) + (v0 : Int)) = (((k3 + v0) % 2 ^ 64 : Nat) : Int) := by rw [wrap_mod64]; omega
              obtain ⟨k4, hk4⟩ : ∃ x : Nat, (k3 + v0) % 2 ^ 64 = x := ⟨_, rfl⟩
              rw [hk4] at y4_
              have y5_ : IntKind.u64.wrap ((n2 : Int) * (Y : Int)) = ((qY2 % 2 ^ 64 : Nat) : Int) := by rw [wrap_mod64, ← hqY2]; simp
              obtain ⟨k5, hk5⟩ : ∃ x : Nat, qY2 % 2 ^ 64 = x := ⟨_, rfl⟩
              rw [hk5] at y5_
              have y6_ : IntKind.u64.wrap ((k4 : Int) - (k5 : Int)) = (u3 : Int) := by rw [wrap_mod64]; omega
              have y7_ : (u3 : Int) / 2 ^ s = ((u3 / 2 ^ s : Nat) : Int) := by simp
              obtain ⟨k6, hk6⟩ : ∃ x : Nat, u3 / 2 ^ s = x := ⟨_, rfl⟩
              rw [hk6] at y7_
              have HE := Lib.hid (show k2 = (h * 2 ^ 64 + l) / y ∧ k6 = (h * 2 ^ 64 + l) % y by
                rw [← hk6, ← hk2, ← hk1]
                exact digits_two HYs.out.symm (by omega) (by rw [HM.out, HLV.out]) HT.out (by rw [hqY2, hT2]; exact hTT) hu3Y)
              clear e1 e2 e3 e4 hTT hk1 hk2 hk3 hk4 hk5 hk6 hqY2 hT2 hu3
              go_wp2
              refine bodyPost_ret (v := .tuple #[.int .u64 (k2 : Int), .int .u64 (k6 : Int)]) (by simp [results, Try.results76, go_sem]) rfl ⟨by rw [HE.out.1, HE.out.2]; simp, Below.refl _ _⟩
          · have cf : ((4294967296 : Int) ≤ (m2 : Int)) = False := eq_false (by omega)
            rcases hgo with g | ⟨g, g2⟩
            · have ca : ((4294967296 : Int) ≤ (q2 : Int)) = True := eq_true (by omega)
              clear hP2 hS2 hW2 hP64
              go_wp2
              go_round
              case rel => exact ⟨n2, m2, rfl, rfl, by omega, by omega, D2⟩
              case measure => simp [intOf]; omega
            · have ca : ((4294967296 : Int) ≤ (q2 : Int)) = False := eq_false (by omega)
              have wP : IntKind.u64.wrap ((q2 : Int) * (b : Int)) = (P2 : Int) := wrapN (by rw [← hP2]; simp) (hP64 g)
              have cb : ((S2 : Int) < (P2 : Int)) = True := eq_true (by omega)
              clear hP2 hS2 hW2 hP64
              go_wp2
              go_round
              case rel => exact ⟨n2, m2, rfl, rfl, by omega, by omega, D2⟩
              case measure => simp [intOf]; omega
        · have E := Lib.hid (guess_end HYab.out G2.out (by omega))
          have MO := Lib.hid G2.out.more
          have hP64 : P2 < 2 ^ 64 := by omega
          have ca : ((4294967296 : Int) ≤ (q2 : Int)) = False := eq_false (by omega)
          have wP : IntKind.u64.wrap ((q2 : Int) * (b : Int)) = (P2 : Int) := wrapN (by rw [← hP2]; simp) hP64
          have cb : ((S2 : Int) < (P2 : Int)) = False := eq_false (by omega)
          clear hP2 hS2 hW2 hP64
          have hd2 := guess_digit E.out M2.out V2.out
          obtain ⟨qY2, hqY2⟩ : ∃ x : Nat, q2 * Y = x := ⟨_, rfl⟩
          obtain ⟨T2, hT2⟩ : ∃ x : Nat, u2 * 2 ^ 32 + v0 = x := ⟨_, rfl⟩
          obtain ⟨u3, hu3⟩ : ∃ x : Nat, T2 - qY2 = x := ⟨_, rfl⟩
          have e1 := E.out
          have e2 := MO.out
          have e3 := M2.out
          have e4 := HD.out
          rw [hqY2, hT2] at e1
          rw [Nat.add_mul, Nat.one_mul, hqY2, hT2] at e2
          have hTT : T2 = qY2 + u3 := by omega
          have hu3Y : u3 < Y := by omega
          have y1_ : IntKind.u64.wrap ((q1 : Int) * 4294967296) = ((q1 * 2 ^ 32 : Nat) : Int) := wrapN (by omega) (by omega)
          have y2_ : IntKind.u64.wrap (((q1 * 2 ^ 32 : Nat) : Int) + (q2 : Int)) = ((q1 * 2 ^ 32 + q2 : Nat) : Int) := wrapN (by omega) (by omega)
          obtain ⟨k1, hk1⟩ : ∃ x : Nat, q1 * 2 ^ 32 = x := ⟨_, rfl⟩
          rw [hk1] at y1_ y2_
          obtain ⟨k2, hk2⟩ : ∃ x : Nat, k1 + q2 = x := ⟨_, rfl⟩
          rw [hk2] at y2_
          have y3_ : IntKind.u64.wrap ((u2 : Int) * 4294967296) = ((u2 * 2 ^ 32 % 2 ^ 64 : Nat) : Int) := by rw [wrap_mod64]; omega
          obtain ⟨k3, hk3⟩ : ∃ x : Nat, u2 * 2 ^ 32 % 2 ^ 64 = x := ⟨_, rfl⟩
          rw [hk3] at y3_
          have y4_ : IntKind.u64.wrap ((k3 : Int) + (v0 : Int)) = (((k3 + v0) % 2 ^ 64 : Nat) : Int) := by rw [wrap_mod64]; omega
          obtain ⟨k4, hk4⟩ : ∃ x : Nat, (k3 + v0) % 2 ^ 64 = x := ⟨_, rfl⟩
          rw [hk4] at y4_
          have y5_ : IntKind.u64.wrap ((q2 : Int) * (Y : Int)) = ((qY2 % 2 ^ 64 : Nat) : Int) := by rw [wrap_mod64, ← hqY2]; simp
          obtain ⟨k5, hk5⟩ : ∃ x : Nat, qY2 % 2 ^ 64 = x := ⟨_, rfl⟩
          rw [hk5] at y5_
          have y6_ : IntKind.u64.wrap ((k4 : Int) - (k5 : Int)) = (u3 : Int) := by rw [wrap_mod64]; omega
          have y7_ : (u3 : Int) / 2 ^ s = ((u3 / 2 ^ s : Nat) : Int) := by simp
          obtain ⟨k6, hk6⟩ : ∃ x : Nat, u3 / 2 ^ s = x := ⟨_, rfl⟩
          rw [hk6] at y7_
          have HE := Lib.hid (show k2 = (h * 2 ^ 64 + l) / y ∧ k6 = (h * 2 ^ 64 + l) % y by
            rw [← hk6, ← hk2, ← hk1]
            exact digits_two HYs.out.symm (by omega) (by rw [HM.out, HLV.out]) HT.out (by rw [hqY2, hT2]; exact hTT) hu3Y)
          clear e1 e2 e3 e4 hTT hk1 hk2 hk3 hk4 hk5 hk6 hqY2 hT2 hu3
          go_wp2
          refine bodyPost_ret (v := .tuple #[.int .u64 (k2 : Int), .int .u64 (k6 : Int)]) (by simp [results, Try.results76, go_sem]) rfl ⟨by rw [HE.out.1, HE.out.2]; simp, Below.refl _ _⟩
set_option maxRecDepth 20000 in
set_option maxHeartbeats 8000000 in
theorem Step_yes {h l d : Nat} (hh : h < d) (hd : d < 2 ^ 64) (hl : l < 2 ^ 64) {Q T : Nat} (eQ : (h * 2 ^ 64 + l) / d = Q) (eT : (h * 2 ^ 64 + l) % d = T) (w : World) :
    Calls Try.prog 36 #[.int .u64 (h : Int), .int .u64 (l : Int), .int .u64 (d : Int)] w fun e w' => e = .returned (.tuple #[.int .u64 (Q : Int), .int .u64 (T : Int), .bool true]) ∧ Below w.heap.size w w' := by
  have c1 : ((d : Int) ≤ (h : Int)) = False := eq_false (by omega)
  have HC := Lib.hid (show ∀ w, Calls Try.prog 76 #[.int .u64 (h : Int), .int .u64 (l : Int), .int .u64 (d : Int)] w fun e w' => e = .returned (.tuple #[.int .u64 (Q : Int), .int .u64 (T : Int)]) ∧ Below w.heap.size w w' from fun w => by
    rw [← eQ, ← eT]
    by_cases h0 : h = 0
    · subst h0
      have := div64_low (l := l) (y := d) (by omega) hd hl w
      rw [Nat.zero_mul, Nat.zero_add]
      exact this
    · exact div64_high (by omega) hh hd hl w)
  clear eQ eT
  go_enter Try.func36, Try.ntmps36
  go_wp2_with fail
  refine (HC.out _).mono ?_
  rintro e w' ⟨rfl, hb⟩
  go_wp2
  refine bodyPost_ret (v := .tuple #[.int .u64 (Q : Int), .int .u64 (T : Int), .bool true]) (by simp [results, Try.results36, go_sem]) rfl ⟨rfl, hb⟩
end Go.Proofs.Ytglagdmfplgfaaa
