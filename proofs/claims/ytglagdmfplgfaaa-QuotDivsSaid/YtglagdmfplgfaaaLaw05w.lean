/- The walk of QuotDivs, joined. -/
import Derived.Test.YtglagdmfplgfaaaLaw05r
set_option linter.unusedVariables false
set_option linter.unusedSimpArgs false
namespace Go.Proofs.Ytglagdmfplgfaaa
open Go.RowKit

theorem toNat0 : (0 : Int).toNat = 0 := rfl
theorem val4_two1 (l h p q r : Nat) : (l : Int).toNat + (h : Int).toNat * p + (0 : Int).toNat * q + (0 : Int).toNat * r = h * p + l := by
  rw [Int.toNat_natCast, Int.toNat_natCast, toNat0, Nat.zero_mul, Nat.zero_mul]
  omega
theorem val4_two (l h : Nat) : val4 (l : Int) (h : Int) 0 0 = h * 2 ^ 64 + l := val4_two1 l h (2 ^ 64) (2 ^ 128) (2 ^ 192)
theorem zero256q : wideV 0 = .agg #[.int .u64 0, .int .u64 0, .int .u64 0, .int .u64 0] := by
  have h : ∀ i, limb i 0 = 0 := fun i => by unfold limb; simp
  rw [wideV, h, h, h, h]
theorem zero128q : bitsV 0 = .agg #[.int .u64 0, .int .u64 0] := by
  have h : ∀ i, limb i 0 = 0 := fun i => by unfold limb; simp
  rw [bitsV, h, h]
theorem ref05Div_any {A D : Nat} (hA : W256 A) (hD : W128 D) (h0 : 0 < D) (w : World) :
    Calls Try.prog 35 #[wideV A, bitsV D] w fun e w' => e = .returned (.tuple #[wideV (divN A D), bitsV (modN A D), .bool true]) ∧ Below w.heap.size w w' := by
  have e1 : A / D = divN A D := by rw [divN_def]
  have e2 : A % D = modN A D := by rw [modN_def]
  by_cases hh : limb 1 D = 0
  · have hl : ¬ limb 0 D = 0 := fun hl => by
      have := (IsBits.of hD).v
      rw [hh, hl] at this
      have h2 : val2 0 0 = 0 := rfl
      omega
    exact ref05Div_lo hA hD h0 e1 e2 (div_w hA _) (mod_w _ hD h0) hh hl w
  · exact ref05Div_hi hA hD h0 e1 e2 (div_w hA _) (mod_w _ hD h0) hh w
theorem QuotDivs_walk {A D : Nat} (hA : W256 A) (hD : W128 D) (w : World) :
    Calls Try.prog 8 #[wideV A, bitsV D] w fun e w' => e = .returned (.bool true) ∧ Below w.heap.size w w' := by
  have uh := limb_u64 1 A
  have ul := limb_u64 0 A
  have ud := limb_u64 0 D
  obtain ⟨h, eh⟩ : ∃ h : Nat, limb 1 A = h := ⟨(limb 1 A).toNat, by have := uh.lo; omega⟩
  obtain ⟨l, el⟩ : ∃ l : Nat, limb 0 A = l := ⟨(limb 0 A).toNat, by have := ul.lo; omega⟩
  obtain ⟨d, ed⟩ : ∃ d : Nat, limb 0 D = d := ⟨(limb 0 D).toNat, by have := ud.lo; omega⟩
  have h9 : h < 2 ^ 64 := by have := uh.hi; omega
  have l9 : l < 2 ^ 64 := by have := ul.hi; omega
  have d9 : d < 2 ^ 64 := by have := ud.hi; omega
  by_cases h0 : D = 0
  · subst h0
    have z0 : limb 0 0 = 0 := by unfold limb; simp
    have hd := fun w => Div_zero_at (IsWide.of hA) (IsBits.of hD) rfl w
    refine QuotDivs_00 hA hD hd (fun w => by rw [zero128q]; exact ref05Div_zero hA w) (fun w => Step_no _ _ _ (by rw [z0]; exact uh.lo) w) (by rw [z0]; exact uh.lo) w
  · have hp : 0 < D := by omega
    have hd := fun w => Div_at (IsWide.of hA) (IsBits.of hD) hp w
    have hr := fun w => ref05Div_any hA hD hp w
    by_cases g : limb 1 A < limb 0 D
    · have hhd : h < d := by omega
      obtain ⟨N, hN⟩ : ∃ N, h * 2 ^ 64 + l = N := ⟨_, rfl⟩
      obtain ⟨Q, eQ⟩ : ∃ Q, N / d = Q := ⟨_, rfl⟩
      obtain ⟨T, eT⟩ : ∃ T, N % d = T := ⟨_, rfl⟩
      have Q9 : Q < 2 ^ 64 := by
        rw [← eQ, Nat.div_lt_iff_lt_mul (by omega)]
        have := Nat.mul_le_mul_left (2 ^ 64) (show h + 1 ≤ d by omega)
        omega
      have T9 : T < d := by rw [← eT]; exact Nat.mod_lt _ (by omega)
      have vA : IsWide (limb 0 A) (limb 1 A) 0 0 (val4 (limb 0 A) (limb 1 A) 0 0) := IsWide.val ul uh u64_zero u64_zero
      have vD : IsBits 0 (limb 0 D) (val2 (limb 0 D) 0) := IsBits.val u64_zero ud
      have nA : val4 (limb 0 A) (limb 1 A) 0 0 = N := by rw [eh, el, ← hN]; exact val4_two l h
      have nD : val2 (limb 0 D) 0 = d := by
        rw [ed]; unfold val2
        rw [Int.toNat_natCast, show (0 : Int).toNat = 0 from rfl, Nat.zero_mul, Nat.add_zero]
      have vQ : IsWide (Q : Int) 0 0 0 Q := by
        have := IsWide.val (show U64 (Q : Int) from ⟨by omega, by omega⟩) u64_zero u64_zero u64_zero
        have e : val4 (Q : Int) 0 0 0 = Q := by
          unfold val4
          rw [Int.toNat_natCast, show (0 : Int).toNat = 0 from rfl, Nat.zero_mul, Nat.add_zero]
        rwa [e] at this
      have vT : IsBits 0 (T : Int) T := by
        have := IsBits.val u64_zero (show U64 (T : Int) from ⟨by omega, by omega⟩)
        have e : val2 (T : Int) 0 = T := by
          unfold val2
          rw [show (0 : Int).toNat = 0 from rfl, Int.toNat_natCast, Nat.zero_mul, Nat.add_zero]
        rwa [e] at this
      have s4 := fun w => ref05Div_any vA.w vD.w (by rw [nD]; omega) w
      rw [nA, nD, divN_def, modN_def, eQ, eT] at s4
      have vA' := vA
      rw [nA] at vA'
      have vD' := vD
      rw [nD] at vD'
      have fA : wideV N = .agg #[.int .u64 (limb 0 A), .int .u64 (limb 1 A), .int .u64 0, .int .u64 0] := by rw [wideV, ← vA'.e0, ← vA'.e1, ← vA'.e2, ← vA'.e3]
      have fD : bitsV d = .agg #[.int .u64 0, .int .u64 (limb 0 D)] := by rw [bitsV, ← vD'.hi, ← vD'.lo]
      have fQ : wideV Q = .agg #[.int .u64 (Q : Int), .int .u64 0, .int .u64 0, .int .u64 0] := by rw [wideV, ← vQ.e0, ← vQ.e1, ← vQ.e2, ← vQ.e3]
      have fT : bitsV T = .agg #[.int .u64 0, .int .u64 (T : Int)] := by rw [bitsV, ← vT.hi, ← vT.lo]
      rw [fA, fD, fQ, fT] at s4
      have s3 := fun w => Step_yes (Q := Q) (T := T) hhd d9 l9 (by rw [hN]; exact eQ) (by rw [hN]; exact eT) w
      rw [← eh, ← el, ← ed] at s3
      exact QuotDivs_11 hA hD (div_w hA _) (mod_w _ hD hp) hd hr s3 s4 g w
    · exact QuotDivs_10 hA hD (div_w hA _) (mod_w _ hD hp) hd hr (fun w => Step_no _ _ _ (by omega) w) (by omega) w
end Go.Proofs.Ytglagdmfplgfaaa
