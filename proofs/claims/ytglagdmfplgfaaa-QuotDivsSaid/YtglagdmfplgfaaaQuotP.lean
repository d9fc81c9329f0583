/- Plain arithmetic of quotients: rest and quotient along a list of places. No program is in sight. -/
import Derived.Test.YtglagdmfplgfaaaNum05b
set_option linter.unusedVariables false
set_option linter.unusedSimpArgs false
namespace Go.Proofs.Ytglagdmfplgfaaa

/-- quotient and rest, by name -/
@[irreducible] def divN (A D : Nat) : Nat := A / D
@[irreducible] def modN (A D : Nat) : Nat := A % D
theorem divN_def (A D : Nat) : divN A D = A / D := by unfold divN; rfl
theorem modN_def (A D : Nat) : modN A D = A % D := by unfold modN; rfl
/-- the first k of the 256 places -/
def first256 (k : Nat) : List (Fin 256) := (List.finRange 256).take k
theorem first256_succ {k : Nat} (h : k < 256) : first256 (k + 1) = first256 k ++ [⟨k, h⟩] := by
  unfold first256
  rw [List.take_succ_eq_append_getElem (by simpa using h)]; simp
theorem first256_length {k : Nat} (h : k ≤ 256) : (first256 k).length = k := by unfold first256; simp; omega
/-- quotient and rest, one place more -/
def layQ (q i : Nat) (once : Bool) : Nat := if once = true then q ||| 2 ^ i else q
def divS (A D : Nat) (pre : List (Fin 256)) : Nat × Nat :=
  pre.foldl (fun s x => (layQ s.1 (255 - x.val) (onceB s.2 (bitN A (255 - x.val)) D), nextN s.2 (bitN A (255 - x.val)) D)) (0, 0)
theorem divS_nil (A D : Nat) : divS A D [] = (0, 0) := rfl
theorem divS_snoc (A D : Nat) (pre : List (Fin 256)) (x : Fin 256) : divS A D (pre ++ [x]) =
    (layQ (divS A D pre).1 (255 - x.val) (onceB (divS A D pre).2 (bitN A (255 - x.val)) D), nextN (divS A D pre).2 (bitN A (255 - x.val)) D) := by
  unfold divS; rw [List.foldl_append]; rfl
theorem layQ_w {q i : Nat} {o : Bool} (h : W256 q) (hi : i < 256) : W256 (layQ q i o) := by
  unfold layQ; split
  · exact ⟨Nat.or_lt_two_pow h.lt (Nat.pow_lt_pow_right (by omega) hi)⟩
  · exact h
theorem divS_inv_aux (A : Nat) {D : Nat} : ∀ (pre : List (Fin 256)) (s : Nat × Nat), W256 s.1 → s.2 < D →
    W256 (pre.foldl (fun s x => (layQ s.1 (255 - x.val) (onceB s.2 (bitN A (255 - x.val)) D), nextN s.2 (bitN A (255 - x.val)) D)) s).1 ∧ (pre.foldl (fun (s : Nat × Nat) (x : Fin 256) => (layQ s.1 (255 - x.val) (onceB s.2 (bitN A (255 - x.val)) D), nextN s.2 (bitN A (255 - x.val)) D)) s).2 < D
  | [], _, h, k => ⟨h, k⟩
  | x :: l, s, h, k => divS_inv_aux A l _ (layQ_w h (by omega)) (next_lt k (bitN_le _ _))
theorem divS_inv (A : Nat) {D : Nat} (hD : 0 < D) (pre : List (Fin 256)) : W256 (divS A D pre).1 ∧ (divS A D pre).2 < D := divS_inv_aux A pre (0, 0) ⟨by omega⟩ hD
theorem divS_first {A D : Nat} (hA : W256 A) (hD : 0 < D) : ∀ k, k ≤ 256 → divS A D (first256 k) = (quoN A D (256 - k), restN A D (256 - k))
  | 0, _ => by
    unfold first256; rw [List.take_zero, divS_nil, quo_top hA.lt, rest_top hA.lt]
  | k + 1, h => by
    rw [first256_succ (by omega), divS_snoc, divS_first hA hD k (by omega)]
    have e : 256 - k = 255 - k + 1 := by omega
    have e2 : 256 - (k + 1) = 255 - k := by omega
    simp only []
    rw [e2, e, rest_step A (i := 255 - k) hD, quo_step A (i := 255 - k) hD]
    unfold layQ
    congr 1
    split
    · rename_i o; exact quo_or _ _ _
    · rename_i o; exact (Nat.add_zero _).symm
theorem divS_all {A D : Nat} (hA : W256 A) (hD : 0 < D) : divS A D (first256 256) = (divN A D, modN A D) := by
  rw [divN_def, modN_def, divS_first hA hD 256 (Nat.le_refl _), Nat.sub_self, quo_end, rest_end]
/-- the parts of a quotient with a bit laid into it -/
theorem limb_layQ (q i j : Nat) : limb j (q ||| 2 ^ i) = if i / 64 = j then bits .or .u64 (limb j q) ((2 ^ (i % 64) : Nat) : Int) else limb j q := by
  have h := limb_or j q (2 ^ i)
  rw [limb_pow] at h
  split
  · rename_i e
    rw [if_pos e] at h; exact h.symm
  · rename_i e
    rw [if_neg e, or_u64 (limb_u64 _ _) u64_zero] at h
    have := (limb_u64 j q).lo
    rw [← h, show (0 : Int).toNat = 0 from rfl, Nat.or_zero]; omega
theorem div_w {A : Nat} (hA : W256 A) (D : Nat) : W256 (divN A D) := ⟨by rw [divN_def]; exact Nat.lt_of_le_of_lt (Nat.div_le_self _ _) hA.lt⟩
theorem mod_w (A : Nat) {D : Nat} (hD : W128 D) (h : 0 < D) : W128 (modN A D) := ⟨by rw [modN_def]; exact Nat.lt_trans (Nat.mod_lt _ h) hD.lt⟩
end Go.Proofs.Ytglagdmfplgfaaa
