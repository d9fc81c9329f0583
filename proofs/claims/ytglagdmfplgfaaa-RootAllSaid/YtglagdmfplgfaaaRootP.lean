/- Plain arithmetic of square roots: the bits laid along a list of places. No program is in sight. -/
import Derived.Test.YtglagdmfplgfaaaNum06b
set_option linter.unusedVariables false
set_option linter.unusedSimpArgs false
namespace Go.Proofs.Ytglagdmfplgfaaa

/-- the first k of the 128 places -/
def first128 (k : Nat) : List (Fin 128) := (List.finRange 128).take k
theorem first128_succ {k : Nat} (h : k < 128) : first128 (k + 1) = first128 k ++ [⟨k, h⟩] := by
  unfold first128
  rw [List.take_succ_eq_append_getElem (by simpa using h)]; simp
theorem first128_length {k : Nat} (h : k ≤ 128) : (first128 k).length = k := by unfold first128; simp; omega
/-- one bit more, where the square allows it -/
def orStep (n r i : Nat) : Nat := if (r ||| 2 ^ i) * (r ||| 2 ^ i) ≤ n then r ||| 2 ^ i else r
/-- the root's bits along a list of places -/
def orS (n : Nat) (pre : List (Fin 128)) : Nat := pre.foldl (fun r x => orStep n r (127 - x.val)) 0
theorem orS_nil (n : Nat) : orS n [] = 0 := rfl
theorem orS_snoc (n : Nat) (pre : List (Fin 128)) (x : Fin 128) : orS n (pre ++ [x]) = orStep n (orS n pre) (127 - x.val) := by
  unfold orS; rw [List.foldl_append]; rfl
theorem or_w {A i : Nat} (h : W128 A) (hi : i < 128) : W128 (A ||| 2 ^ i) := ⟨Nat.or_lt_two_pow h.lt (Nat.pow_lt_pow_right (by omega) hi)⟩
theorem orStep_w {n r i : Nat} (h : W128 r) (hi : i < 128) : W128 (orStep n r i) := by
  unfold orStep; split
  · exact or_w h hi
  · exact h
theorem orS_w_aux (n : Nat) : ∀ (pre : List (Fin 128)) (r : Nat), W128 r → W128 (pre.foldl (fun r x => orStep n r (127 - x.val)) r)
  | [], _, h => h
  | x :: l, r, h => orS_w_aux n l _ (orStep_w h (by omega))
theorem orS_w (n : Nat) (pre : List (Fin 128)) : W128 (orS n pre) := orS_w_aux n pre 0 ⟨by omega⟩
theorem orS_first {n : Nat} (hn : W256 n) : ∀ k, k ≤ 128 → orS n (first128 k) = rootS n k
  | 0, _ => by unfold first128; rw [List.take_zero, orS_nil]; rfl
  | k + 1, h => by
    rw [first128_succ (by omega), orS_snoc, orS_first hn k (by omega), rootS_succ]
    unfold orStep
    rw [rootS_or hn (by omega)]
theorem orS_all {n : Nat} (hn : W256 n) : orS n (first128 128) = rootN n := by rw [orS_first hn 128 (Nat.le_refl _), rootS_all]
theorem pow_w {i : Nat} (h : i < 128) : W128 (2 ^ i) := ⟨Nat.pow_lt_pow_right (by omega) h⟩
end Go.Proofs.Ytglagdmfplgfaaa
