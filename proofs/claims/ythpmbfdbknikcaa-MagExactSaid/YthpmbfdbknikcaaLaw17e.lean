/- The walk of MagExact. -/
import Derived.Test.YthpmbfdbknikcaaRef17a
import Derived.Test.YthpmbfdbknikcaaLaw17
set_option linter.unusedVariables false
set_option linter.unusedSimpArgs false
namespace Go.Proofs.Ythpmbfdbknikcaa
open Go.RowKit

def roomN (A : Nat) : Nat := val4 (bits .andNot .u64 (limb 0 A) 3) (limb 1 A) (limb 2 A) (bits .or .u64 (limb 3 A) 9223372036854775808)
theorem andNot3 (x : Nat) (hx : x < 2 ^ 64) : ∃ r : Nat, bits .andNot .u64 (x : Int) 3 = r ∧ r < 2 ^ 64 ∧ r % 4 = 0 := by
  refine ⟨(BitVec.ofInt 64 (x : Int) &&& ~~~ (BitVec.ofInt 64 3)).toNat, ?_, BitVec.isLt _, ?_⟩
  · have h := (BitVec.ofInt 64 (x : Int) &&& ~~~ (BitVec.ofInt 64 3)).isLt
    show IntKind.u64.wrap ((BitVec.ofInt 64 (x : Int) &&& ~~~ (BitVec.ofInt 64 3)).toNat : Nat) = _
    exact wrap_u64 (by omega) (by omega)
  · rw [BitVec.toNat_and, show (4 : Nat) = 2 ^ 2 from rfl, Nat.and_mod_two_pow]
    rw [show (~~~ (BitVec.ofInt 64 3) : BitVec 64).toNat % 2 ^ 2 = 0 by decide, Nat.and_zero]
theorem or_top (x : Nat) (hx : x < 2 ^ 64) : ∃ r : Nat, bits .or .u64 (x : Int) 9223372036854775808 = r ∧ r < 2 ^ 64 ∧ 2 ^ 63 ≤ r := by
  refine ⟨x ||| 9223372036854775808, ?_, Nat.or_lt_two_pow hx (by decide), Nat.right_le_or⟩
  rw [or_u64 ⟨by omega, by omega⟩ ⟨by omega, by omega⟩, Int.toNat_natCast]; rfl
theorem room_parts (A : Nat) : IsWide (bits .andNot .u64 (limb 0 A) 3) (limb 1 A) (limb 2 A) (bits .or .u64 (limb 3 A) 9223372036854775808) (roomN A) ∧ roomN A % 4 = 0 ∧ 2 ^ 255 ≤ roomN A := by
  have n0 := limb_nat 0 A
  have n3 := limb_nat 3 A
  obtain ⟨r0, e0, a0, b0⟩ := andNot3 _ (Nat.mod_lt (A / 2 ^ (64 * 0)) (Nat.two_pow_pos 64))
  obtain ⟨r3, e3, a3, b3⟩ := or_top _ (Nat.mod_lt (A / 2 ^ (64 * 3)) (Nat.two_pow_pos 64))
  rw [← n0] at e0
  rw [← n3] at e3
  unfold roomN
  rw [e0, e3]
  refine ⟨IsWide.val ⟨by omega, by omega⟩ (limb_u64 _ _) (limb_u64 _ _) ⟨by omega, by omega⟩, ?_, ?_⟩
  · unfold val4; rw [Int.toNat_natCast, Int.toNat_natCast]; omega
  · unfold val4; rw [Int.toNat_natCast, Int.toNat_natCast]; omega
/-- of terms with room: the sum, jammed, is the sum of what is jammed -/
theorem exact_sum {A B k : Nat} (hA : A < 2 ^ 256) (hB : B < 2 ^ 256) (h4 : A % 4 = 0) : add256 (jamN A 1) (jamN B (k + 1 : Nat)) = jamN (A * 2 ^ k + B) (k + 1 : Nat) := by
  have hp := Nat.two_pow_pos k
  have ja : jamN A 1 = A / 2 := by
    have hl : lostB A 1 = false := by unfold lostB; rw [show (1 : Int).toNat = 1 from rfl]; exact decide_eq_false (by omega)
    rw [jam_no hl]; unfold rightN; rw [show (1 : Int).toNat = 1 from rfl, Nat.pow_one]
  have e2 : 2 ^ (k + 1) = 2 * 2 ^ k := Nat.pow_succ'
  have eA : A * 2 ^ k = A / 2 * 2 ^ (k + 1) := by
    rw [e2, ← Nat.mul_assoc]; congr 1; omega
  have hr : rightN (A * 2 ^ k + B) ((k + 1 : Nat) : Int) = A / 2 + rightN B ((k + 1 : Nat) : Int) := by
    unfold rightN; rw [Int.toNat_natCast, eA, Nat.add_comm, Nat.add_mul_div_right _ _ (Nat.two_pow_pos _), Nat.add_comm]
  have hl : lostB (A * 2 ^ k + B) ((k + 1 : Nat) : Int) = lostB B ((k + 1 : Nat) : Int) := by
    unfold lostB; rw [Int.toNat_natCast, eA, Nat.add_comm, Nat.add_mul_mod_self_right]
  have hj : jamN (A * 2 ^ k + B) ((k + 1 : Nat) : Int) = A / 2 + jamN B ((k + 1 : Nat) : Int) := by
    unfold jamN; rw [hr, hl]; split
    · unfold oddN; omega
    · rfl
  have hb : rightN B ((k + 1 : Nat) : Int) < 2 ^ 255 := by
    unfold rightN; rw [Int.toNat_natCast, e2, ← Nat.div_div_eq_div_mul]
    have := Nat.div_le_self (B / 2) (2 ^ k)
    omega
  have hjb := (jam_le B ((k + 1 : Nat) : Int)).2
  rw [ja, hj]
  unfold add256
  unfold oddN at hjb
  exact Nat.mod_eq_of_lt (by omega)
/-- of terms with room: the difference, jammed, is the difference of what is jammed -/
theorem exact_diff {A B k : Nat} (hA : A < 2 ^ 256) (hB : B < 2 ^ 256) (ht : 2 ^ 255 ≤ A) (h4 : A % 4 = 0) (hle : B ≤ A * 2 ^ k) : sub256 A (jamN B (k : Nat)) = jamN (A * 2 ^ k - B) (k : Nat) := by
  rcases k with _ | k
  · rw [jam_zero B (by omega), jam_zero _ (by omega), Nat.pow_zero, Nat.mul_one]
    rw [Nat.pow_zero, Nat.mul_one] at hle
    unfold sub256; omega
  · have e2 : 2 ^ (k + 1) = 2 * 2 ^ k := Nat.pow_succ'
    have hp := Nat.two_pow_pos (k + 1)
    have hb : B / 2 ^ (k + 1) < 2 ^ 255 := by
      rw [e2, ← Nat.div_div_eq_div_mul]
      have := Nat.div_le_self (B / 2) (2 ^ k)
      omega
    have em := Nat.div_add_mod B (2 ^ (k + 1))
    have hm := Nat.mod_lt B hp
    have hjb := (jam_le B ((k + 1 : Nat) : Int)).2
    cases hl : lostB B ((k + 1 : Nat) : Int) with
    | false =>
      have h0 : B % 2 ^ (k + 1) = 0 := by
        unfold lostB at hl
        rw [Int.toNat_natCast] at hl
        have := of_decide_eq_false hl
        omega
      have ed : A * 2 ^ (k + 1) - B = (A - B / 2 ^ (k + 1)) * 2 ^ (k + 1) := by
        rw [Nat.sub_mul, Nat.div_mul_cancel (Nat.dvd_of_mod_eq_zero h0)]
      have hl2 : lostB (A * 2 ^ (k + 1) - B) ((k + 1 : Nat) : Int) = false := by
        unfold lostB; rw [Int.toNat_natCast, ed, Nat.mul_mod_left]; rfl
      rw [jam_no hl, jam_no hl2]
      unfold rightN
      rw [Int.toNat_natCast, ed, Nat.mul_div_cancel _ hp]
      clear ed hl2 hl h0 em hm hjb hle
      generalize B / 2 ^ (k + 1) = q at *
      unfold sub256; omega
    | true =>
      have h0 : B % 2 ^ (k + 1) ≠ 0 := by
        unfold lostB at hl
        rw [Int.toNat_natCast] at hl
        exact of_decide_eq_true hl
      have ed : A * 2 ^ (k + 1) - B = (2 ^ (k + 1) - B % 2 ^ (k + 1)) + (A - B / 2 ^ (k + 1) - 1) * 2 ^ (k + 1) := by
        have h1 : (B / 2 ^ (k + 1) + 1) * 2 ^ (k + 1) ≤ A * 2 ^ (k + 1) := Nat.mul_le_mul_right _ (by omega)
        rw [Nat.sub_sub, Nat.sub_mul]
        rw [Nat.add_mul, Nat.one_mul] at h1 ⊢
        rw [Nat.mul_comm (2 ^ (k + 1))] at em
        omega
      have hr2 : (A * 2 ^ (k + 1) - B) / 2 ^ (k + 1) = A - B / 2 ^ (k + 1) - 1 := by
        rw [ed, Nat.add_mul_div_right _ _ hp, Nat.div_eq_of_lt (by omega)]; omega
      have hm2 : (A * 2 ^ (k + 1) - B) % 2 ^ (k + 1) ≠ 0 := by
        rw [ed, Nat.add_mul_mod_self_right, Nat.mod_eq_of_lt (by omega)]; omega
      have hl2 : lostB (A * 2 ^ (k + 1) - B) ((k + 1 : Nat) : Int) = true := by
        unfold lostB; rw [Int.toNat_natCast]; exact decide_eq_true hm2
      rw [jam_yes hl, jam_yes hl2]
      unfold rightN
      rw [Int.toNat_natCast, hr2]
      unfold oddN sub256; omega
set_option maxRecDepth 100000 in
set_option maxHeartbeats 8000000 in
theorem room_w {A : Nat} {r0 r3 : Int} (h0 : bits .andNot .u64 (limb 0 A) 3 = r0) (h3 : bits .or .u64 (limb 3 A) 9223372036854775808 = r3) (w : World) :
    Calls Try.prog 46 #[wideV A] w fun e w' => e = .returned (.agg #[.int .u64 r0, .int .u64 (limb 1 A), .int .u64 (limb 2 A), .int .u64 r3]) ∧ Below w.heap.size w w' := by
  have hk := Kept.refl w
  go_enter Try.func46, Try.ntmps46
  go_wp2
  refine bodyPost_ret (v := .agg #[.int .u64 r0, .int .u64 (limb 1 A), .int .u64 (limb 2 A), .int .u64 r3]) (by simp [results, Try.results46, go_sem]) rfl ⟨rfl, ?_⟩
  refine Kept.below ?_; repeat (first | with_reducible exact hk | with_reducible exact Kept.refl _ | with_reducible refine Kept.alloc ?_ _ | with_reducible refine Kept.drew ?_ | with_reducible refine Kept.setCell ?_ (by simp only [World.size_alloc, World.size_setCell, World.size_drew]; omega) _)

theorem room_any {A R : Nat} (h : roomN A = R) (w : World) :
    Calls Try.prog 46 #[wideV A] w fun e w' => e = .returned (wideV R) ∧ Below w.heap.size w w' := by
  subst h
  have hp := (room_parts A).1
  have := room_w (A := A) rfl rfl w
  rwa [hp.e0, hp.e1, hp.e2, hp.e3] at this
theorem refShl_to {v : Value} {A S : Nat} {z : Int} (n : Nat) (hS' : A * 2 ^ n = S) (hz : z = n) (hn : n ≤ 65536) (w : World) (h : IsN w v A) (hl : lenN A ≤ 4096) :
    Calls Try.prog 15 #[v, .int .i64 z] w fun e w' => ∃ u, e = .returned u ∧ IsN w' u S ∧ Below w.heap.size w w' := by
  subst hS'; exact refShl_any n hz hn w h hl
set_option maxRecDepth 100000 in
set_option maxHeartbeats 8000000 in
theorem MagExact_0 {A0 B0 A B S U T k : Nat} {ap x : Int} (eX : x = (k : Int)) (eA : roomN A0 = A) (eB : roomN B0 = B) (hA0 : W256 A0) (hB0 : W256 B0) (hA : W256 A) (hB : W256 B) (hU : W256 U) (hT : W256 T) (p0 : 0 ≤ ap) (p1 : ap ≤ 65535) (pk : ap % 300 = x) (k2 : 0 ≤ x) (k3 : x < 300) (eS : A * 2 ^ k = S) (lS : lenN S ≤ 20) (eU : jamN (S + B) (x + 1) = U) (eT : jamN (S - B) x = T) (hc : B ≤ S) (h1 : ∀ w, Calls Try.prog 47 #[termV x A, termV 0 B] w fun e w' => e = .returned (termV (x + 1) U) ∧ Below w.heap.size w w') (h2 : ∀ w, Calls Try.prog 49 #[termV x A, termV 0 B] w fun e w' => e = .returned (.tuple #[termV x T, .bool false]) ∧ Below w.heap.size w w') (w : World) :
    Calls Try.prog 7 #[wideV A0, wideV B0, .int .u16 ap] w fun e w' => e = .returned (.bool true) ∧ Below w.heap.size w w' := by
  have hk := Kept.refl w
  have HX := Lib.hid eX; have HA := Lib.hid eA; have HB := Lib.hid eB; have HS := Lib.hid eS; have HU := Lib.hid eU; have HT := Lib.hid eT; have H1 := Lib.hid h1; have H2 := Lib.hid h2
  have HLE := Lib.hid (show B ≤ S by omega)
  have c1 : ¬ cmpN S B < 0 := by rw [cmp_neg]; omega
  have la := len256 hA; have lb := len256 hB; have lu := len256 hU; have lt := len256 hT
  have lS2 := lenN_add S B
  have lS3 := lenN_sub S B
  have w0_ : IntKind.i64.wrap ap = ap := IntWalk.i64_in _ (by omega)
  have w1_ : IntKind.i64.wrap (x + 1) = x + 1 := IntWalk.i64_in _ (by omega)
  clear eX eA eB eS eU eT h1 h2 hc
  go_enter Try.func7, Try.ntmps7
  go_wp2
  refine wp_region_g 5 (fun W' => Kept w.heap.size w W' ∧ w.heap.size + 1 + 1 ≤ W'.heap.size ∧ Box W' (w.heap.size) #[.int .u64 (limb 0 A0), .int .u64 (limb 1 A0), .int .u64 (limb 2 A0), .int .u64 (limb 3 A0)] ∧ Box W' (w.heap.size + 1) #[.int .u64 (limb 0 B0), .int .u64 (limb 1 B0), .int .u64 (limb 2 B0), .int .u64 (limb 3 B0)]) (fun W' => Kept w.heap.size w W' ∧ w.heap.size + 1 + 1 ≤ W'.heap.size ∧ Box W' (w.heap.size) #[.int .u64 (limb 0 A), .int .u64 (limb 1 A), .int .u64 (limb 2 A), .int .u64 (limb 3 A)] ∧ Box W' (w.heap.size + 1) #[.int .u64 (limb 0 B0), .int .u64 (limb 1 B0), .int .u64 (limb 2 B0), .int .u64 (limb 3 B0)]) 4 (w.heap.size + 1 + 1) [.known (wideV A0), .known (wideV A), .known (wideV B0), .known (wideV B), .out (w.heap.size) [.int .u64 (limb 0 A), .int .u64 (limb 1 A), .int .u64 (limb 2 A), .int .u64 (limb 3 A)]] (by kernel_rfl) (by kernel_rfl) (fun W W' h hb => ⟨h.1.step hb, Nat.le_trans (h.2.1) hb.size, Box.call hb (h.2.2.1), Box.call hb (h.2.2.2)⟩) (fun W W' h hb => ⟨h.1.step hb, Nat.le_trans (h.2.1) hb.size, Box.call hb (h.2.2.1), Box.call hb (h.2.2.2)⟩) (fun b V e => by
    obtain ⟨rfl, rfl⟩ : b = w.heap.size ∧ V = [.int .u64 (limb 0 A), .int .u64 (limb 1 A), .int .u64 (limb 2 A), .int .u64 (limb 3 A)] := by injection e with e; injection e with e1 e2; exact ⟨e1.symm, e2.symm⟩
    exact ⟨by omega, fun w' h => ⟨(by simp only [putCells]; exact ((((h.1).setCell (p := ⟨w.heap.size, 0, none⟩) (by simp only []; omega) _).setCell (p := ⟨w.heap.size, 1, none⟩) (by simp only []; omega) _).setCell (p := ⟨w.heap.size, 2, none⟩) (by simp only []; omega) _).setCell (p := ⟨w.heap.size, 3, none⟩) (by simp only []; omega) _), (by rw [putCells_size]; exact h.2.1), (by simp only [putCells]; with_reducible apply Box.set43; with_reducible apply Box.set42; with_reducible apply Box.set41; with_reducible apply Box.set40; exact h.2.2.1), (by simp only [putCells]; exact ((((h.2.2.2).other (by omega)).other (by omega)).other (by omega)).other (by omega))⟩⟩) (.inl (by kernel_rfl)) (.inl (by kernel_rfl)) (fun _ h => h.2.1) (fun _ h => h.2.1) (⟨(by repeat (first | with_reducible exact hk | with_reducible exact Kept.refl _ | with_reducible refine Kept.alloc ?_ _ | with_reducible refine Kept.drew ?_ | with_reducible refine Kept.setCell ?_ (by simp only [World.size_alloc, World.size_setCell, World.size_drew]; omega) _)), (by (try simp only [World.size_alloc, World.size_setCell, World.size_drew]); omega), (by repeat (first | with_reducible assumption | with_reducible apply Box.set10 | with_reducible apply Box.set20 | with_reducible apply Box.set21 | with_reducible apply Box.set40 | with_reducible apply Box.set41 | with_reducible apply Box.set42 | with_reducible apply Box.set43 | with_reducible apply Box.set50 | with_reducible apply Box.set51 | with_reducible apply Box.set52 | with_reducible apply Box.set53 | with_reducible apply Box.set54 | with_reducible apply Box.set80 | with_reducible apply Box.set81 | with_reducible apply Box.set82 | with_reducible apply Box.set83 | with_reducible apply Box.set84 | with_reducible apply Box.set85 | with_reducible apply Box.set86 | with_reducible apply Box.set87 | with_reducible apply Box.drew | (with_reducible apply Box.newAt; (try simp only [World.size_alloc, World.size_setCell, World.size_drew]); done) | with_reducible apply Box.alloc | (with_reducible apply Box.other; case hne => ((try simp only [World.size_alloc, World.size_setCell, World.size_drew]); omega)))), (by repeat (first | with_reducible assumption | with_reducible apply Box.set10 | with_reducible apply Box.set20 | with_reducible apply Box.set21 | with_reducible apply Box.set40 | with_reducible apply Box.set41 | with_reducible apply Box.set42 | with_reducible apply Box.set43 | with_reducible apply Box.set50 | with_reducible apply Box.set51 | with_reducible apply Box.set52 | with_reducible apply Box.set53 | with_reducible apply Box.set54 | with_reducible apply Box.set80 | with_reducible apply Box.set81 | with_reducible apply Box.set82 | with_reducible apply Box.set83 | with_reducible apply Box.set84 | with_reducible apply Box.set85 | with_reducible apply Box.set86 | with_reducible apply Box.set87 | with_reducible apply Box.drew | (with_reducible apply Box.newAt; (try simp only [World.size_alloc, World.size_setCell, World.size_drew]); done) | with_reducible apply Box.alloc | (with_reducible apply Box.other; case hne => ((try simp only [World.size_alloc, World.size_setCell, World.size_drew]); omega))))⟩) ?_
  clear hk
  intro ρ
  simp only [List.take_succ_cons, List.take_zero, List.drop_succ_cons, List.drop_zero]
  refine ⟨?_, ?_⟩
  · as_aux_lemma =>
    intro y_ hS_ hO_ hD
    have Q := ((hS_ (by rfl)).2.2.1).cell
    have q0 := Q 0 _ rfl
    have q1 := Q 1 _ rfl
    have q2 := Q 2 _ rfl
    have q3 := Q 3 _ rfl
    clear Q hS_ hO_ hD
    refine s_gen (V := wideV A0) [.pointer (some ⟨w.heap.size, 0, none⟩)] (by kernel_rfl) (by kernel_rfl) (by kernel_rfl) ?_
    intro r_ hr_
    have o0_ : r_ (.tmp 3) = .pointer (some ⟨w.heap.size, 0, none⟩) := op_at hr_ 0 (by kernel_rfl) (by kernel_rfl)
    clear hr_
    go_simp; first | done | with_reducible rfl
  simp only [Act.put, planVG, List.setIfInBounds_toArray, List.set_cons_zero, List.set_cons_succ, List.getElem?_cons_zero, List.getElem?_cons_succ]
  refine ⟨?_, ?_⟩
  · as_aux_lemma =>
    intro y_ hS_ hO_ hD
    try clear hS
    clear hS_ hO_ hD
    refine s_gcall (V := wideV A) [.func (.func 46) #[] #[], wideV A0] ?_ ?_ (by kernel_rfl) (by kernel_rfl) (by kernel_rfl) ?_ ?_
    rotate_left 2
    · intro r_ hr_
      have o0_ : r_ (.func 46) = .func (.func 46) #[] #[] := op_at hr_ 0 (by kernel_rfl) (by kernel_rfl)
      have o1_ : r_ (.tmp 16) = wideV A0 := op_at hr_ 1 (by kernel_rfl) (by kernel_rfl)
      clear hr_
      go_simp; first | done | with_reducible rfl | (constructor <;> with_reducible rfl)
    · refine room_any HA.out _
  simp only [Act.put, planVG, List.setIfInBounds_toArray, List.set_cons_zero, List.set_cons_succ, List.getElem?_cons_zero, List.getElem?_cons_succ]
  refine ⟨?_, ?_⟩
  · as_aux_lemma =>
    intro y_ hS_ hO_ hD
    have Q := (hO_.elim (fun h => h.2.2.2) (fun h => h.2.2.2)).cell
    have q0 := Q 0 _ rfl
    have q1 := Q 1 _ rfl
    have q2 := Q 2 _ rfl
    have q3 := Q 3 _ rfl
    clear Q hS_ hO_ hD
    refine s_gen (V := wideV B0) [.pointer (some ⟨w.heap.size + 1, 0, none⟩)] (by kernel_rfl) (by kernel_rfl) (by kernel_rfl) ?_
    intro r_ hr_
    have o0_ : r_ (.tmp 4) = .pointer (some ⟨w.heap.size + 1, 0, none⟩) := op_at hr_ 0 (by kernel_rfl) (by kernel_rfl)
    clear hr_
    go_simp; first | done | with_reducible rfl
  simp only [Act.put, planVG, List.setIfInBounds_toArray, List.set_cons_zero, List.set_cons_succ, List.getElem?_cons_zero, List.getElem?_cons_succ]
  refine ⟨?_, ?_⟩
  · as_aux_lemma =>
    intro y_ hS_ hO_ hD
    try clear hS
    clear hS_ hO_ hD
    refine s_gcall (V := wideV B) [.func (.func 46) #[] #[], wideV B0] ?_ ?_ (by kernel_rfl) (by kernel_rfl) (by kernel_rfl) ?_ ?_
    rotate_left 2
    · intro r_ hr_
      have o0_ : r_ (.func 46) = .func (.func 46) #[] #[] := op_at hr_ 0 (by kernel_rfl) (by kernel_rfl)
      have o1_ : r_ (.tmp 18) = wideV B0 := op_at hr_ 1 (by kernel_rfl) (by kernel_rfl)
      clear hr_
      go_simp; first | done | with_reducible rfl | (constructor <;> with_reducible rfl)
    · refine room_any HB.out _
  simp only [Act.put, planVG, List.setIfInBounds_toArray, List.set_cons_zero, List.set_cons_succ, List.getElem?_cons_zero, List.getElem?_cons_succ]
  refine ⟨?_, ?_⟩
  · as_aux_lemma =>
    intro y_ hS_ hO_ hD
    have Q := ((hS_ (by rfl)).2.2.1).cell
    have q0 := Q 0 _ rfl
    have q1 := Q 1 _ rfl
    have q2 := Q 2 _ rfl
    have q3 := Q 3 _ rfl
    have Qf := ((hS_ (by rfl)).2.2.1).free
    have Ql := ((hS_ (by rfl)).2.2.1).lt
    clear Q hS_ hO_ hD
    refine s_gout (b := w.heap.size) (V := [.int .u64 (limb 0 A), .int .u64 (limb 1 A), .int .u64 (limb 2 A), .int .u64 (limb 3 A)]) [.pointer (some ⟨w.heap.size, 0, none⟩), wideV A] (by kernel_rfl) (by kernel_rfl) (by kernel_rfl) ?_
    intro r_ hr_
    have o0_ : r_ (.tmp 3) = .pointer (some ⟨w.heap.size, 0, none⟩) := op_at hr_ 0 (by kernel_rfl) (by kernel_rfl)
    have o1_ : r_ (.tmp 17) = wideV A := op_at hr_ 1 (by kernel_rfl) (by kernel_rfl)
    clear hr_
    simp only [putCells]
    go_simp; first | done | with_reducible rfl | rfl
  simp only [Act.put, planVG, List.setIfInBounds_toArray, List.set_cons_zero, List.set_cons_succ, List.getElem?_cons_zero, List.getElem?_cons_succ]
  as_aux_lemma =>
    intro w1 hS hF hD_
    change wpList _ _ _ _ _ _
    replace hS := sg_yes (by decide) hS
    obtain ⟨hk, hZ1, X1, X2⟩ := hS
    clear hF hD_
    clear ρ
    have hz_w1 := hk.size
    have X1l := X1.lt
    have X1f := X1.free
    have X1l1 : w.heap.size < w1.heap.size + 1 := by omega
    have X1l2 : w.heap.size < w1.heap.size + 1 + 1 := by omega
    have X1l3 : w.heap.size < w1.heap.size + 1 + 1 + 1 := by omega
    have X10 := X1.cell 0 _ rfl
    have X11 := X1.cell 1 _ rfl
    have X12 := X1.cell 2 _ rfl
    have X13 := X1.cell 3 _ rfl
    have X2l := X2.lt
    have X2f := X2.free
    have X2l1 : w.heap.size + 1 < w1.heap.size + 1 := by omega
    have X2l2 : w.heap.size + 1 < w1.heap.size + 1 + 1 := by omega
    have X2l3 : w.heap.size + 1 < w1.heap.size + 1 + 1 + 1 := by omega
    have X20 := X2.cell 0 _ rfl
    have X21 := X2.cell 1 _ rfl
    have X22 := X2.cell 2 _ rfl
    have X23 := X2.cell 3 _ rfl
    go_wp2
    simp only [pk]
    refine wp_region_g 9 (fun W' => Kept w.heap.size w W' ∧ w1.heap.size ≤ W'.heap.size ∧ Box W' (w.heap.size) #[.int .u64 (limb 0 A), .int .u64 (limb 1 A), .int .u64 (limb 2 A), .int .u64 (limb 3 A)] ∧ Box W' (w.heap.size + 1) #[.int .u64 (limb 0 B), .int .u64 (limb 1 B), .int .u64 (limb 2 B), .int .u64 (limb 3 B)]) (fun W' => Kept w.heap.size w W' ∧ w1.heap.size ≤ W'.heap.size ∧ Box W' (w.heap.size) #[.int .u64 (limb 0 A), .int .u64 (limb 1 A), .int .u64 (limb 2 A), .int .u64 (limb 3 A)] ∧ Box W' (w.heap.size + 1) #[.int .u64 (limb 0 B), .int .u64 (limb 1 B), .int .u64 (limb 2 B), .int .u64 (limb 3 B)]) 1000 (w1.heap.size) [.known (.int .i64 (x)), .known (wideV A), .known (termV x A), .known (wideV B), .known (termV 0 B), .var #[.int .i64 0, .int .u64 0, .int .u64 0, .int .u64 0, .int .u64 0] 7 [.int .i64 (x), .int .u64 (limb 0 A), .int .u64 (limb 1 A), .int .u64 (limb 2 A), .int .u64 (limb 3 A)], .var #[.int .i64 0, .int .u64 0, .int .u64 0, .int .u64 0, .int .u64 0] 8 [.int .i64 (0), .int .u64 (limb 0 B), .int .u64 (limb 1 B), .int .u64 (limb 2 B), .int .u64 (limb 3 B)], .put 5, .put 6] (by kernel_rfl) (by kernel_rfl) (fun W W' h hb => ⟨h.1.step hb, Nat.le_trans (h.2.1) hb.size, Box.call hb (h.2.2.1), Box.call hb (h.2.2.2)⟩) (fun W W' h hb => ⟨h.1.step hb, Nat.le_trans (h.2.1) hb.size, Box.call hb (h.2.2.1), Box.call hb (h.2.2.2)⟩) (no_out (of_decide_eq_true (by kernel_rfl))) (.inr (fun W' b i v hb h => ⟨h.1.setCell (p := ⟨b, i, none⟩) (by simp only []; omega) v, (by rw [World.size_setCell]; exact h.2.1), (h.2.2.1).other (by omega), (h.2.2.2).other (by omega)⟩)) (.inr (fun W' b i v hb h => ⟨h.1.setCell (p := ⟨b, i, none⟩) (by simp only []; omega) v, (by rw [World.size_setCell]; exact h.2.1), (h.2.2.1).other (by omega), (h.2.2.2).other (by omega)⟩)) (fun _ h => h.2.1) (fun _ h => h.2.1) (⟨(by repeat (first | with_reducible exact hk | with_reducible exact Kept.refl _ | with_reducible refine Kept.alloc ?_ _ | with_reducible refine Kept.drew ?_ | with_reducible refine Kept.setCell ?_ (by simp only [World.size_alloc, World.size_setCell, World.size_drew]; omega) _)), (by (try simp only [World.size_alloc, World.size_setCell, World.size_drew]); omega), (by repeat (first | with_reducible assumption | with_reducible apply Box.set10 | with_reducible apply Box.set20 | with_reducible apply Box.set21 | with_reducible apply Box.set40 | with_reducible apply Box.set41 | with_reducible apply Box.set42 | with_reducible apply Box.set43 | with_reducible apply Box.set50 | with_reducible apply Box.set51 | with_reducible apply Box.set52 | with_reducible apply Box.set53 | with_reducible apply Box.set54 | with_reducible apply Box.set80 | with_reducible apply Box.set81 | with_reducible apply Box.set82 | with_reducible apply Box.set83 | with_reducible apply Box.set84 | with_reducible apply Box.set85 | with_reducible apply Box.set86 | with_reducible apply Box.set87 | with_reducible apply Box.drew | (with_reducible apply Box.newAt; (try simp only [World.size_alloc, World.size_setCell, World.size_drew]); done) | with_reducible apply Box.alloc | (with_reducible apply Box.other; case hne => ((try simp only [World.size_alloc, World.size_setCell, World.size_drew]); omega)))), (by repeat (first | with_reducible assumption | with_reducible apply Box.set10 | with_reducible apply Box.set20 | with_reducible apply Box.set21 | with_reducible apply Box.set40 | with_reducible apply Box.set41 | with_reducible apply Box.set42 | with_reducible apply Box.set43 | with_reducible apply Box.set50 | with_reducible apply Box.set51 | with_reducible apply Box.set52 | with_reducible apply Box.set53 | with_reducible apply Box.set54 | with_reducible apply Box.set80 | with_reducible apply Box.set81 | with_reducible apply Box.set82 | with_reducible apply Box.set83 | with_reducible apply Box.set84 | with_reducible apply Box.set85 | with_reducible apply Box.set86 | with_reducible apply Box.set87 | with_reducible apply Box.drew | (with_reducible apply Box.newAt; (try simp only [World.size_alloc, World.size_setCell, World.size_drew]); done) | with_reducible apply Box.alloc | (with_reducible apply Box.other; case hne => ((try simp only [World.size_alloc, World.size_setCell, World.size_drew]); omega))))⟩) ?_
    clear hk
    clear X1 X1l1 X1l2 X1l3 X1f X10 X11 X12 X13
    clear X2 X2l1 X2l2 X2l3 X2f X20 X21 X22 X23
    intro ρ
    simp only [List.take_succ_cons, List.take_zero, List.drop_succ_cons, List.drop_zero]
    refine ⟨?_, ?_⟩
    · as_aux_lemma =>
      intro y_ hS_ hO_ hD
      clear hS_ hO_ hD
      refine s_gen (V := .int .i64 (x)) [.int .i64 (x)] (by kernel_rfl) (by kernel_rfl) (by kernel_rfl) ?_
      intro r_ hr_
      have o0_ : r_ (.tmp 7) = .int .i64 (x) := op_at hr_ 0 (by kernel_rfl) (by kernel_rfl)
      clear hr_
      go_simp; first | done | with_reducible rfl | omega
    simp only [Act.put, planVG, List.setIfInBounds_toArray, List.set_cons_zero, List.set_cons_succ, List.getElem?_cons_zero, List.getElem?_cons_succ]
    refine ⟨?_, ?_⟩
    · as_aux_lemma =>
      intro y_ hS_ hO_ hD
      have Q := ((hS_ (by rfl)).2.2.1).cell
      have q0 := Q 0 _ rfl
      have q1 := Q 1 _ rfl
      have q2 := Q 2 _ rfl
      have q3 := Q 3 _ rfl
      clear Q hS_ hO_ hD
      refine s_gen (V := wideV A) [.pointer (some ⟨w.heap.size, 0, none⟩)] (by kernel_rfl) (by kernel_rfl) (by kernel_rfl) ?_
      intro r_ hr_
      have o0_ : r_ (.tmp 3) = .pointer (some ⟨w.heap.size, 0, none⟩) := op_at hr_ 0 (by kernel_rfl) (by kernel_rfl)
      clear hr_
      go_simp; first | done | with_reducible rfl
    simp only [Act.put, planVG, List.setIfInBounds_toArray, List.set_cons_zero, List.set_cons_succ, List.getElem?_cons_zero, List.getElem?_cons_succ]
    refine ⟨?_, ?_⟩
    · as_aux_lemma =>
      intro y_ hS_ hO_ hD
      clear hS_ hO_ hD
      refine s_gen (V := termV x A) [.int .i64 (x), wideV A] (by kernel_rfl) (by kernel_rfl) (by kernel_rfl) ?_
      intro r_ hr_
      have o0_ : r_ (.tmp 23) = .int .i64 (x) := op_at hr_ 0 (by kernel_rfl) (by kernel_rfl)
      have o1_ : r_ (.tmp 24) = wideV A := op_at hr_ 1 (by kernel_rfl) (by kernel_rfl)
      clear hr_
      go_simp; first | done | with_reducible rfl | omega
    simp only [Act.put, planVG, List.setIfInBounds_toArray, List.set_cons_zero, List.set_cons_succ, List.getElem?_cons_zero, List.getElem?_cons_succ]
    refine ⟨?_, ?_⟩
    · as_aux_lemma =>
      intro y_ hS_ hO_ hD
      have Q := ((hS_ (by rfl)).2.2.2).cell
      have q0 := Q 0 _ rfl
      have q1 := Q 1 _ rfl
      have q2 := Q 2 _ rfl
      have q3 := Q 3 _ rfl
      clear Q hS_ hO_ hD
      refine s_gen (V := wideV B) [.pointer (some ⟨w.heap.size + 1, 0, none⟩)] (by kernel_rfl) (by kernel_rfl) (by kernel_rfl) ?_
      intro r_ hr_
      have o0_ : r_ (.tmp 4) = .pointer (some ⟨w.heap.size + 1, 0, none⟩) := op_at hr_ 0 (by kernel_rfl) (by kernel_rfl)
      clear hr_
      go_simp; first | done | with_reducible rfl
    simp only [Act.put, planVG, List.setIfInBounds_toArray, List.set_cons_zero, List.set_cons_succ, List.getElem?_cons_zero, List.getElem?_cons_succ]
    refine ⟨?_, ?_⟩
    · as_aux_lemma =>
      intro y_ hS_ hO_ hD
      clear hS_ hO_ hD
      refine s_gen (V := termV 0 B) [wideV B] (by kernel_rfl) (by kernel_rfl) (by kernel_rfl) ?_
      intro r_ hr_
      have o0_ : r_ (.tmp 26) = wideV B := op_at hr_ 0 (by kernel_rfl) (by kernel_rfl)
      clear hr_
      go_simp; first | done | with_reducible rfl | omega
    simp only [Act.put, planVG, List.setIfInBounds_toArray, List.set_cons_zero, List.set_cons_succ, List.getElem?_cons_zero, List.getElem?_cons_succ]
    refine ⟨?_, ?_⟩
    · as_aux_lemma =>
      intro y_ hS_ hO_ hD
      clear hS_ hO_ hD
      refine s_alloc (by rfl) (by rfl) ?_
      simp only [allocTy]
      go_simp; first | done | with_reducible rfl | rfl
    simp only [Act.put, planVG, List.setIfInBounds_toArray, List.set_cons_zero, List.set_cons_succ, List.getElem?_cons_zero, List.getElem?_cons_succ]
    refine ⟨?_, ?_⟩
    · as_aux_lemma =>
      intro y_ hS_ hO_ hD
      clear hS_ hO_ hD
      refine s_alloc (by rfl) (by rfl) ?_
      simp only [allocTy]
      go_simp; first | done | with_reducible rfl | rfl
    simp only [Act.put, planVG, List.setIfInBounds_toArray, List.set_cons_zero, List.set_cons_succ, List.getElem?_cons_zero, List.getElem?_cons_succ]
    refine ⟨?_, ?_⟩
    · as_aux_lemma =>
      intro y_ hS_ hO_ hD
      have hS := hS_ (by rfl)
      clear hS hS_ hO_ hD
      refine s_gput (j := 5) (Z := #[.int .i64 0, .int .u64 0, .int .u64 0, .int .u64 0, .int .u64 0]) (V := [.int .i64 (x), .int .u64 (limb 0 A), .int .u64 (limb 1 A), .int .u64 (limb 2 A), .int .u64 (limb 3 A)]) [ρ 5, termV x A] (by kernel_rfl) (by kernel_rfl) (by kernel_rfl) (by kernel_rfl) ?_
      intro r_ b hr_ hb hB F
      have o0_ : r_ (.tmp 8) = ρ 5 := op_at hr_ 0 (by kernel_rfl) (by kernel_rfl)
      have o1_ : r_ (.tmp 25) = termV x A := op_at hr_ 1 (by kernel_rfl) (by kernel_rfl)
      clear hr_
      rw [hb] at o0_
      have Q := F.cell
      have q0 := Q 0 _ rfl
      have q1 := Q 1 _ rfl
      have q2 := Q 2 _ rfl
      have q3 := Q 3 _ rfl
      have q4 := Q 4 _ rfl
      have Qf := F.free
      have Ql := F.lt
      clear Q F
      simp only [putCells]
      go_simp; first | done | with_reducible rfl | rfl
    simp only [Act.put, planVG, List.setIfInBounds_toArray, List.set_cons_zero, List.set_cons_succ, List.getElem?_cons_zero, List.getElem?_cons_succ]
    refine ⟨?_, ?_⟩
    · as_aux_lemma =>
      intro y_ hS_ hO_ hD
      have hS := hS_ (by rfl)
      clear hS hS_ hO_ hD
      refine s_gput (j := 6) (Z := #[.int .i64 0, .int .u64 0, .int .u64 0, .int .u64 0, .int .u64 0]) (V := [.int .i64 (0), .int .u64 (limb 0 B), .int .u64 (limb 1 B), .int .u64 (limb 2 B), .int .u64 (limb 3 B)]) [ρ 6, termV 0 B] (by kernel_rfl) (by kernel_rfl) (by kernel_rfl) (by kernel_rfl) ?_
      intro r_ b hr_ hb hB F
      have o0_ : r_ (.tmp 9) = ρ 6 := op_at hr_ 0 (by kernel_rfl) (by kernel_rfl)
      have o1_ : r_ (.tmp 27) = termV 0 B := op_at hr_ 1 (by kernel_rfl) (by kernel_rfl)
      clear hr_
      rw [hb] at o0_
      have Q := F.cell
      have q0 := Q 0 _ rfl
      have q1 := Q 1 _ rfl
      have q2 := Q 2 _ rfl
      have q3 := Q 3 _ rfl
      have q4 := Q 4 _ rfl
      have Qf := F.free
      have Ql := F.lt
      clear Q F
      simp only [putCells]
      go_simp; first | done | with_reducible rfl | rfl
    simp only [Act.put, planVG, List.setIfInBounds_toArray, List.set_cons_zero, List.set_cons_succ, List.getElem?_cons_zero, List.getElem?_cons_succ]
    as_aux_lemma =>
      intro w2 hS hF hD_
      change wpList _ _ _ _ _ _
      replace hS := sg_no (by decide) hS
      obtain ⟨hk, hZ2, X1, X2⟩ := hS
      obtain ⟨v3_5, e_v3_5, hv3_5, Bv3_5⟩ : ∃ b, ρ 5 = .pointer (some ⟨b, 0, none⟩) ∧ w1.heap.size ≤ b ∧ Box w2 b #[.int .i64 (x), .int .u64 (limb 0 A), .int .u64 (limb 1 A), .int .u64 (limb 2 A), .int .u64 (limb 3 A)] := by
        obtain ⟨b, h1, h2, h3⟩ := hF 5 (by decide)
        exact ⟨b, h1, h2, h3.lt, h3.cell, h3.free⟩
      obtain ⟨v3_6, e_v3_6, hv3_6, Bv3_6⟩ : ∃ b, ρ 6 = .pointer (some ⟨b, 0, none⟩) ∧ w1.heap.size ≤ b ∧ Box w2 b #[.int .i64 (0), .int .u64 (limb 0 B), .int .u64 (limb 1 B), .int .u64 (limb 2 B), .int .u64 (limb 3 B)] := by
        obtain ⟨b, h1, h2, h3⟩ := hF 6 (by decide)
        exact ⟨b, h1, h2, h3.lt, h3.cell, h3.free⟩
      have nv3_5_v3_6 : ¬ v3_5 = v3_6 := fun h => hD_ 5 6 (by decide) (by decide) (by decide) (by rfl) (by rfl) (by rw [e_v3_5, e_v3_6, h])
      have nv3_6_v3_5 : ¬ v3_6 = v3_5 := fun h => nv3_5_v3_6 h.symm
      clear hF hD_
      simp only [e_v3_5]
      clear e_v3_5
      simp only [e_v3_6]
      clear e_v3_6
      clear ρ
      have hz_w2 := hk.size
      have X1l := X1.lt
      have X1f := X1.free
      have X1l1 : w.heap.size < w2.heap.size + 1 := by omega
      have X1l2 : w.heap.size < w2.heap.size + 1 + 1 := by omega
      have X1l3 : w.heap.size < w2.heap.size + 1 + 1 + 1 := by omega
      have X10 := X1.cell 0 _ rfl
      have X11 := X1.cell 1 _ rfl
      have X12 := X1.cell 2 _ rfl
      have X13 := X1.cell 3 _ rfl
      have X2l := X2.lt
      have X2f := X2.free
      have X2l1 : w.heap.size + 1 < w2.heap.size + 1 := by omega
      have X2l2 : w.heap.size + 1 < w2.heap.size + 1 + 1 := by omega
      have X2l3 : w.heap.size + 1 < w2.heap.size + 1 + 1 + 1 := by omega
      have X20 := X2.cell 0 _ rfl
      have X21 := X2.cell 1 _ rfl
      have X22 := X2.cell 2 _ rfl
      have X23 := X2.cell 3 _ rfl
      have Bv3_5l := Bv3_5.lt
      have Bv3_5f := Bv3_5.free
      have Bv3_5l1 : v3_5 < w2.heap.size + 1 := by omega
      have Bv3_5l2 : v3_5 < w2.heap.size + 1 + 1 := by omega
      have Bv3_5l3 : v3_5 < w2.heap.size + 1 + 1 + 1 := by omega
      have Bv3_50 := Bv3_5.cell 0 _ rfl
      have Bv3_51 := Bv3_5.cell 1 _ rfl
      have Bv3_52 := Bv3_5.cell 2 _ rfl
      have Bv3_53 := Bv3_5.cell 3 _ rfl
      have Bv3_54 := Bv3_5.cell 4 _ rfl
      have Bv3_6l := Bv3_6.lt
      have Bv3_6f := Bv3_6.free
      have Bv3_6l1 : v3_6 < w2.heap.size + 1 := by omega
      have Bv3_6l2 : v3_6 < w2.heap.size + 1 + 1 := by omega
      have Bv3_6l3 : v3_6 < w2.heap.size + 1 + 1 + 1 := by omega
      have Bv3_60 := Bv3_6.cell 0 _ rfl
      have Bv3_61 := Bv3_6.cell 1 _ rfl
      have Bv3_62 := Bv3_6.cell 2 _ rfl
      have Bv3_63 := Bv3_6.cell 3 _ rfl
      have Bv3_64 := Bv3_6.cell 4 _ rfl
      go_wp2_with fail
      (with_reducible refine (refWide_any (IsWide.of hA).w _).mono ?_)
      rintro e w3 ⟨vN1, rfl, N1_, hb⟩
      have X2' : Box w3 (w.heap.size + 1) #[.int .u64 (limb 0 B), .int .u64 (limb 1 B), .int .u64 (limb 2 B), .int .u64 (limb 3 B)] := Box.call hb (by repeat (first | with_reducible assumption | with_reducible apply Box.set10 | with_reducible apply Box.set20 | with_reducible apply Box.set21 | with_reducible apply Box.set40 | with_reducible apply Box.set41 | with_reducible apply Box.set42 | with_reducible apply Box.set43 | with_reducible apply Box.set50 | with_reducible apply Box.set51 | with_reducible apply Box.set52 | with_reducible apply Box.set53 | with_reducible apply Box.set54 | with_reducible apply Box.set80 | with_reducible apply Box.set81 | with_reducible apply Box.set82 | with_reducible apply Box.set83 | with_reducible apply Box.set84 | with_reducible apply Box.set85 | with_reducible apply Box.set86 | with_reducible apply Box.set87 | with_reducible apply Box.drew | (with_reducible apply Box.newAt; (try simp only [World.size_alloc, World.size_setCell, World.size_drew]); done) | with_reducible apply Box.alloc | (with_reducible apply Box.other; case hne => ((try simp only [World.size_alloc, World.size_setCell, World.size_drew]); omega))))
      have Bv3_5' : Box w3 (v3_5) #[.int .i64 (x), .int .u64 (limb 0 A), .int .u64 (limb 1 A), .int .u64 (limb 2 A), .int .u64 (limb 3 A)] := Box.call hb (by repeat (first | with_reducible assumption | with_reducible apply Box.set10 | with_reducible apply Box.set20 | with_reducible apply Box.set21 | with_reducible apply Box.set40 | with_reducible apply Box.set41 | with_reducible apply Box.set42 | with_reducible apply Box.set43 | with_reducible apply Box.set50 | with_reducible apply Box.set51 | with_reducible apply Box.set52 | with_reducible apply Box.set53 | with_reducible apply Box.set54 | with_reducible apply Box.set80 | with_reducible apply Box.set81 | with_reducible apply Box.set82 | with_reducible apply Box.set83 | with_reducible apply Box.set84 | with_reducible apply Box.set85 | with_reducible apply Box.set86 | with_reducible apply Box.set87 | with_reducible apply Box.drew | (with_reducible apply Box.newAt; (try simp only [World.size_alloc, World.size_setCell, World.size_drew]); done) | with_reducible apply Box.alloc | (with_reducible apply Box.other; case hne => ((try simp only [World.size_alloc, World.size_setCell, World.size_drew]); omega))))
      have Bv3_6' : Box w3 (v3_6) #[.int .i64 (0), .int .u64 (limb 0 B), .int .u64 (limb 1 B), .int .u64 (limb 2 B), .int .u64 (limb 3 B)] := Box.call hb (by repeat (first | with_reducible assumption | with_reducible apply Box.set10 | with_reducible apply Box.set20 | with_reducible apply Box.set21 | with_reducible apply Box.set40 | with_reducible apply Box.set41 | with_reducible apply Box.set42 | with_reducible apply Box.set43 | with_reducible apply Box.set50 | with_reducible apply Box.set51 | with_reducible apply Box.set52 | with_reducible apply Box.set53 | with_reducible apply Box.set54 | with_reducible apply Box.set80 | with_reducible apply Box.set81 | with_reducible apply Box.set82 | with_reducible apply Box.set83 | with_reducible apply Box.set84 | with_reducible apply Box.set85 | with_reducible apply Box.set86 | with_reducible apply Box.set87 | with_reducible apply Box.drew | (with_reducible apply Box.newAt; (try simp only [World.size_alloc, World.size_setCell, World.size_drew]); done) | with_reducible apply Box.alloc | (with_reducible apply Box.other; case hne => ((try simp only [World.size_alloc, World.size_setCell, World.size_drew]); omega))))
      have hk' : Kept w.heap.size w w3 := Kept.step (by repeat (first | with_reducible exact hk | with_reducible exact Kept.refl _ | with_reducible refine Kept.alloc ?_ _ | with_reducible refine Kept.drew ?_ | with_reducible refine Kept.setCell ?_ (by simp only [World.size_alloc, World.size_setCell, World.size_drew]; omega) _)) hb
      clear hk hb
      clear X1 X1l1 X1l2 X1l3 X1f X10 X11 X12 X13
      clear X2 X2l1 X2l2 X2l3 X2f X20 X21 X22 X23
      clear Bv3_5 Bv3_5l1 Bv3_5l2 Bv3_5l3 Bv3_5f Bv3_50 Bv3_51 Bv3_52 Bv3_53 Bv3_54
      clear Bv3_6 Bv3_6l1 Bv3_6l2 Bv3_6l3 Bv3_6f Bv3_60 Bv3_61 Bv3_62 Bv3_63 Bv3_64
      have X2 := X2'
      clear X2'
      have Bv3_5 := Bv3_5'
      clear Bv3_5'
      have Bv3_6 := Bv3_6'
      clear Bv3_6'
      have hk := hk'
      clear hk'
      have hz_w3 := hk.size
      have X2l := X2.lt
      have X2f := X2.free
      have X2l1 : w.heap.size + 1 < w3.heap.size + 1 := by omega
      have X2l2 : w.heap.size + 1 < w3.heap.size + 1 + 1 := by omega
      have X2l3 : w.heap.size + 1 < w3.heap.size + 1 + 1 + 1 := by omega
      have X20 := X2.cell 0 _ rfl
      have X21 := X2.cell 1 _ rfl
      have X22 := X2.cell 2 _ rfl
      have X23 := X2.cell 3 _ rfl
      have Bv3_5l := Bv3_5.lt
      have Bv3_5f := Bv3_5.free
      have Bv3_5l1 : v3_5 < w3.heap.size + 1 := by omega
      have Bv3_5l2 : v3_5 < w3.heap.size + 1 + 1 := by omega
      have Bv3_5l3 : v3_5 < w3.heap.size + 1 + 1 + 1 := by omega
      have Bv3_50 := Bv3_5.cell 0 _ rfl
      have Bv3_51 := Bv3_5.cell 1 _ rfl
      have Bv3_52 := Bv3_5.cell 2 _ rfl
      have Bv3_53 := Bv3_5.cell 3 _ rfl
      have Bv3_54 := Bv3_5.cell 4 _ rfl
      have Bv3_6l := Bv3_6.lt
      have Bv3_6f := Bv3_6.free
      have Bv3_6l1 : v3_6 < w3.heap.size + 1 := by omega
      have Bv3_6l2 : v3_6 < w3.heap.size + 1 + 1 := by omega
      have Bv3_6l3 : v3_6 < w3.heap.size + 1 + 1 + 1 := by omega
      have Bv3_60 := Bv3_6.cell 0 _ rfl
      have Bv3_61 := Bv3_6.cell 1 _ rfl
      have Bv3_62 := Bv3_6.cell 2 _ rfl
      have Bv3_63 := Bv3_6.cell 3 _ rfl
      have Bv3_64 := Bv3_6.cell 4 _ rfl
      have N1 : IsN w3 vN1 (A) := N1_
      clear N1_
      go_wp2_with fail
      (with_reducible refine (refShl_to k HS.out HX.out (by have := HX.out; omega) _ (IsN.kept N1 (by repeat (first | with_reducible exact Kept.refl _ | with_reducible refine Kept.alloc ?_ _ | with_reducible refine Kept.drew ?_ | with_reducible refine Kept.setCell ?_ (by simp only [World.size_alloc, World.size_setCell, World.size_drew]; omega) _))) (by omega)).mono ?_)
      rintro e w4 ⟨vN2, rfl, N2_, hb⟩
      have X2' : Box w4 (w.heap.size + 1) #[.int .u64 (limb 0 B), .int .u64 (limb 1 B), .int .u64 (limb 2 B), .int .u64 (limb 3 B)] := Box.call hb (by repeat (first | with_reducible assumption | with_reducible apply Box.set10 | with_reducible apply Box.set20 | with_reducible apply Box.set21 | with_reducible apply Box.set40 | with_reducible apply Box.set41 | with_reducible apply Box.set42 | with_reducible apply Box.set43 | with_reducible apply Box.set50 | with_reducible apply Box.set51 | with_reducible apply Box.set52 | with_reducible apply Box.set53 | with_reducible apply Box.set54 | with_reducible apply Box.set80 | with_reducible apply Box.set81 | with_reducible apply Box.set82 | with_reducible apply Box.set83 | with_reducible apply Box.set84 | with_reducible apply Box.set85 | with_reducible apply Box.set86 | with_reducible apply Box.set87 | with_reducible apply Box.drew | (with_reducible apply Box.newAt; (try simp only [World.size_alloc, World.size_setCell, World.size_drew]); done) | with_reducible apply Box.alloc | (with_reducible apply Box.other; case hne => ((try simp only [World.size_alloc, World.size_setCell, World.size_drew]); omega))))
      have Bv3_5' : Box w4 (v3_5) #[.int .i64 (x), .int .u64 (limb 0 A), .int .u64 (limb 1 A), .int .u64 (limb 2 A), .int .u64 (limb 3 A)] := Box.call hb (by repeat (first | with_reducible assumption | with_reducible apply Box.set10 | with_reducible apply Box.set20 | with_reducible apply Box.set21 | with_reducible apply Box.set40 | with_reducible apply Box.set41 | with_reducible apply Box.set42 | with_reducible apply Box.set43 | with_reducible apply Box.set50 | with_reducible apply Box.set51 | with_reducible apply Box.set52 | with_reducible apply Box.set53 | with_reducible apply Box.set54 | with_reducible apply Box.set80 | with_reducible apply Box.set81 | with_reducible apply Box.set82 | with_reducible apply Box.set83 | with_reducible apply Box.set84 | with_reducible apply Box.set85 | with_reducible apply Box.set86 | with_reducible apply Box.set87 | with_reducible apply Box.drew | (with_reducible apply Box.newAt; (try simp only [World.size_alloc, World.size_setCell, World.size_drew]); done) | with_reducible apply Box.alloc | (with_reducible apply Box.other; case hne => ((try simp only [World.size_alloc, World.size_setCell, World.size_drew]); omega))))
      have Bv3_6' : Box w4 (v3_6) #[.int .i64 (0), .int .u64 (limb 0 B), .int .u64 (limb 1 B), .int .u64 (limb 2 B), .int .u64 (limb 3 B)] := Box.call hb (by repeat (first | with_reducible assumption | with_reducible apply Box.set10 | with_reducible apply Box.set20 | with_reducible apply Box.set21 | with_reducible apply Box.set40 | with_reducible apply Box.set41 | with_reducible apply Box.set42 | with_reducible apply Box.set43 | with_reducible apply Box.set50 | with_reducible apply Box.set51 | with_reducible apply Box.set52 | with_reducible apply Box.set53 | with_reducible apply Box.set54 | with_reducible apply Box.set80 | with_reducible apply Box.set81 | with_reducible apply Box.set82 | with_reducible apply Box.set83 | with_reducible apply Box.set84 | with_reducible apply Box.set85 | with_reducible apply Box.set86 | with_reducible apply Box.set87 | with_reducible apply Box.drew | (with_reducible apply Box.newAt; (try simp only [World.size_alloc, World.size_setCell, World.size_drew]); done) | with_reducible apply Box.alloc | (with_reducible apply Box.other; case hne => ((try simp only [World.size_alloc, World.size_setCell, World.size_drew]); omega))))
      have N1' : IsN w4 vN1 (A) := (IsN.kept N1 (by repeat (first | with_reducible exact Kept.refl _ | with_reducible refine Kept.alloc ?_ _ | with_reducible refine Kept.drew ?_ | with_reducible refine Kept.setCell ?_ (by simp only [World.size_alloc, World.size_setCell, World.size_drew]; omega) _))).call hb
      have hk' : Kept w.heap.size w w4 := Kept.step (by repeat (first | with_reducible exact hk | with_reducible exact Kept.refl _ | with_reducible refine Kept.alloc ?_ _ | with_reducible refine Kept.drew ?_ | with_reducible refine Kept.setCell ?_ (by simp only [World.size_alloc, World.size_setCell, World.size_drew]; omega) _)) hb
      clear hk hb
      clear X2 X2l1 X2l2 X2l3 X2f X20 X21 X22 X23
      clear Bv3_5 Bv3_5l1 Bv3_5l2 Bv3_5l3 Bv3_5f Bv3_50 Bv3_51 Bv3_52 Bv3_53 Bv3_54
      clear Bv3_6 Bv3_6l1 Bv3_6l2 Bv3_6l3 Bv3_6f Bv3_60 Bv3_61 Bv3_62 Bv3_63 Bv3_64
      have X2 := X2'
      clear X2'
      have Bv3_5 := Bv3_5'
      clear Bv3_5'
      have Bv3_6 := Bv3_6'
      clear Bv3_6'
      clear N1
      have N1 := N1'
      clear N1'
      have hk := hk'
      clear hk'
      have hz_w4 := hk.size
      have X2l := X2.lt
      have X2f := X2.free
      have X2l1 : w.heap.size + 1 < w4.heap.size + 1 := by omega
      have X2l2 : w.heap.size + 1 < w4.heap.size + 1 + 1 := by omega
      have X2l3 : w.heap.size + 1 < w4.heap.size + 1 + 1 + 1 := by omega
      have X20 := X2.cell 0 _ rfl
      have X21 := X2.cell 1 _ rfl
      have X22 := X2.cell 2 _ rfl
      have X23 := X2.cell 3 _ rfl
      have Bv3_5l := Bv3_5.lt
      have Bv3_5f := Bv3_5.free
      have Bv3_5l1 : v3_5 < w4.heap.size + 1 := by omega
      have Bv3_5l2 : v3_5 < w4.heap.size + 1 + 1 := by omega
      have Bv3_5l3 : v3_5 < w4.heap.size + 1 + 1 + 1 := by omega
      have Bv3_50 := Bv3_5.cell 0 _ rfl
      have Bv3_51 := Bv3_5.cell 1 _ rfl
      have Bv3_52 := Bv3_5.cell 2 _ rfl
      have Bv3_53 := Bv3_5.cell 3 _ rfl
      have Bv3_54 := Bv3_5.cell 4 _ rfl
      have Bv3_6l := Bv3_6.lt
      have Bv3_6f := Bv3_6.free
      have Bv3_6l1 : v3_6 < w4.heap.size + 1 := by omega
      have Bv3_6l2 : v3_6 < w4.heap.size + 1 + 1 := by omega
      have Bv3_6l3 : v3_6 < w4.heap.size + 1 + 1 + 1 := by omega
      have Bv3_60 := Bv3_6.cell 0 _ rfl
      have Bv3_61 := Bv3_6.cell 1 _ rfl
      have Bv3_62 := Bv3_6.cell 2 _ rfl
      have Bv3_63 := Bv3_6.cell 3 _ rfl
      have Bv3_64 := Bv3_6.cell 4 _ rfl
      have N2 : IsN w4 vN2 (S) := N2_
      clear N2_
      clear N1
      go_wp2_with fail
      (with_reducible refine (refWide_any (IsWide.of hB).w _).mono ?_)
      rintro e w5 ⟨vN3, rfl, N3_, hb⟩
      have X2' : Box w5 (w.heap.size + 1) #[.int .u64 (limb 0 B), .int .u64 (limb 1 B), .int .u64 (limb 2 B), .int .u64 (limb 3 B)] := Box.call hb (by repeat (first | with_reducible assumption | with_reducible apply Box.set10 | with_reducible apply Box.set20 | with_reducible apply Box.set21 | with_reducible apply Box.set40 | with_reducible apply Box.set41 | with_reducible apply Box.set42 | with_reducible apply Box.set43 | with_reducible apply Box.set50 | with_reducible apply Box.set51 | with_reducible apply Box.set52 | with_reducible apply Box.set53 | with_reducible apply Box.set54 | with_reducible apply Box.set80 | with_reducible apply Box.set81 | with_reducible apply Box.set82 | with_reducible apply Box.set83 | with_reducible apply Box.set84 | with_reducible apply Box.set85 | with_reducible apply Box.set86 | with_reducible apply Box.set87 | with_reducible apply Box.drew | (with_reducible apply Box.newAt; (try simp only [World.size_alloc, World.size_setCell, World.size_drew]); done) | with_reducible apply Box.alloc | (with_reducible apply Box.other; case hne => ((try simp only [World.size_alloc, World.size_setCell, World.size_drew]); omega))))
      have Bv3_5' : Box w5 (v3_5) #[.int .i64 (x), .int .u64 (limb 0 A), .int .u64 (limb 1 A), .int .u64 (limb 2 A), .int .u64 (limb 3 A)] := Box.call hb (by repeat (first | with_reducible assumption | with_reducible apply Box.set10 | with_reducible apply Box.set20 | with_reducible apply Box.set21 | with_reducible apply Box.set40 | with_reducible apply Box.set41 | with_reducible apply Box.set42 | with_reducible apply Box.set43 | with_reducible apply Box.set50 | with_reducible apply Box.set51 | with_reducible apply Box.set52 | with_reducible apply Box.set53 | with_reducible apply Box.set54 | with_reducible apply Box.set80 | with_reducible apply Box.set81 | with_reducible apply Box.set82 | with_reducible apply Box.set83 | with_reducible apply Box.set84 | with_reducible apply Box.set85 | with_reducible apply Box.set86 | with_reducible apply Box.set87 | with_reducible apply Box.drew | (with_reducible apply Box.newAt; (try simp only [World.size_alloc, World.size_setCell, World.size_drew]); done) | with_reducible apply Box.alloc | (with_reducible apply Box.other; case hne => ((try simp only [World.size_alloc, World.size_setCell, World.size_drew]); omega))))
      have Bv3_6' : Box w5 (v3_6) #[.int .i64 (0), .int .u64 (limb 0 B), .int .u64 (limb 1 B), .int .u64 (limb 2 B), .int .u64 (limb 3 B)] := Box.call hb (by repeat (first | with_reducible assumption | with_reducible apply Box.set10 | with_reducible apply Box.set20 | with_reducible apply Box.set21 | with_reducible apply Box.set40 | with_reducible apply Box.set41 | with_reducible apply Box.set42 | with_reducible apply Box.set43 | with_reducible apply Box.set50 | with_reducible apply Box.set51 | with_reducible apply Box.set52 | with_reducible apply Box.set53 | with_reducible apply Box.set54 | with_reducible apply Box.set80 | with_reducible apply Box.set81 | with_reducible apply Box.set82 | with_reducible apply Box.set83 | with_reducible apply Box.set84 | with_reducible apply Box.set85 | with_reducible apply Box.set86 | with_reducible apply Box.set87 | with_reducible apply Box.drew | (with_reducible apply Box.newAt; (try simp only [World.size_alloc, World.size_setCell, World.size_drew]); done) | with_reducible apply Box.alloc | (with_reducible apply Box.other; case hne => ((try simp only [World.size_alloc, World.size_setCell, World.size_drew]); omega))))
      have N2' : IsN w5 vN2 (S) := (IsN.kept N2 (by repeat (first | with_reducible exact Kept.refl _ | with_reducible refine Kept.alloc ?_ _ | with_reducible refine Kept.drew ?_ | with_reducible refine Kept.setCell ?_ (by simp only [World.size_alloc, World.size_setCell, World.size_drew]; omega) _))).call hb
      have hk' : Kept w.heap.size w w5 := Kept.step (by repeat (first | with_reducible exact hk | with_reducible exact Kept.refl _ | with_reducible refine Kept.alloc ?_ _ | with_reducible refine Kept.drew ?_ | with_reducible refine Kept.setCell ?_ (by simp only [World.size_alloc, World.size_setCell, World.size_drew]; omega) _)) hb
      clear hk hb
      clear X2 X2l1 X2l2 X2l3 X2f X20 X21 X22 X23
      clear Bv3_5 Bv3_5l1 Bv3_5l2 Bv3_5l3 Bv3_5f Bv3_50 Bv3_51 Bv3_52 Bv3_53 Bv3_54
      clear Bv3_6 Bv3_6l1 Bv3_6l2 Bv3_6l3 Bv3_6f Bv3_60 Bv3_61 Bv3_62 Bv3_63 Bv3_64
      have X2 := X2'
      clear X2'
      have Bv3_5 := Bv3_5'
      clear Bv3_5'
      have Bv3_6 := Bv3_6'
      clear Bv3_6'
      clear N2
      have N2 := N2'
      clear N2'
      have hk := hk'
      clear hk'
      have hz_w5 := hk.size
      have X2l := X2.lt
      have X2f := X2.free
      have X2l1 : w.heap.size + 1 < w5.heap.size + 1 := by omega
      have X2l2 : w.heap.size + 1 < w5.heap.size + 1 + 1 := by omega
      have X2l3 : w.heap.size + 1 < w5.heap.size + 1 + 1 + 1 := by omega
      have X20 := X2.cell 0 _ rfl
      have X21 := X2.cell 1 _ rfl
      have X22 := X2.cell 2 _ rfl
      have X23 := X2.cell 3 _ rfl
      have Bv3_5l := Bv3_5.lt
      have Bv3_5f := Bv3_5.free
      have Bv3_5l1 : v3_5 < w5.heap.size + 1 := by omega
      have Bv3_5l2 : v3_5 < w5.heap.size + 1 + 1 := by omega
      have Bv3_5l3 : v3_5 < w5.heap.size + 1 + 1 + 1 := by omega
      have Bv3_50 := Bv3_5.cell 0 _ rfl
      have Bv3_51 := Bv3_5.cell 1 _ rfl
      have Bv3_52 := Bv3_5.cell 2 _ rfl
      have Bv3_53 := Bv3_5.cell 3 _ rfl
      have Bv3_54 := Bv3_5.cell 4 _ rfl
      have Bv3_6l := Bv3_6.lt
      have Bv3_6f := Bv3_6.free
      have Bv3_6l1 : v3_6 < w5.heap.size + 1 := by omega
      have Bv3_6l2 : v3_6 < w5.heap.size + 1 + 1 := by omega
      have Bv3_6l3 : v3_6 < w5.heap.size + 1 + 1 + 1 := by omega
      have Bv3_60 := Bv3_6.cell 0 _ rfl
      have Bv3_61 := Bv3_6.cell 1 _ rfl
      have Bv3_62 := Bv3_6.cell 2 _ rfl
      have Bv3_63 := Bv3_6.cell 3 _ rfl
      have Bv3_64 := Bv3_6.cell 4 _ rfl
      have N3 : IsN w5 vN3 (B) := N3_
      clear N3_
      go_wp2_with fail
      (with_reducible refine (refAdd_any _ (IsN.kept N2 (by repeat (first | with_reducible exact Kept.refl _ | with_reducible refine Kept.alloc ?_ _ | with_reducible refine Kept.drew ?_ | with_reducible refine Kept.setCell ?_ (by simp only [World.size_alloc, World.size_setCell, World.size_drew]; omega) _))) (IsN.kept N3 (by repeat (first | with_reducible exact Kept.refl _ | with_reducible refine Kept.alloc ?_ _ | with_reducible refine Kept.drew ?_ | with_reducible refine Kept.setCell ?_ (by simp only [World.size_alloc, World.size_setCell, World.size_drew]; omega) _))) (by omega) (by omega)).mono ?_)
      rintro e w6 ⟨vN4, rfl, N4_, hb⟩
      have X2' : Box w6 (w.heap.size + 1) #[.int .u64 (limb 0 B), .int .u64 (limb 1 B), .int .u64 (limb 2 B), .int .u64 (limb 3 B)] := Box.call hb (by repeat (first | with_reducible assumption | with_reducible apply Box.set10 | with_reducible apply Box.set20 | with_reducible apply Box.set21 | with_reducible apply Box.set40 | with_reducible apply Box.set41 | with_reducible apply Box.set42 | with_reducible apply Box.set43 | with_reducible apply Box.set50 | with_reducible apply Box.set51 | with_reducible apply Box.set52 | with_reducible apply Box.set53 | with_reducible apply Box.set54 | with_reducible apply Box.set80 | with_reducible apply Box.set81 | with_reducible apply Box.set82 | with_reducible apply Box.set83 | with_reducible apply Box.set84 | with_reducible apply Box.set85 | with_reducible apply Box.set86 | with_reducible apply Box.set87 | with_reducible apply Box.drew | (with_reducible apply Box.newAt; (try simp only [World.size_alloc, World.size_setCell, World.size_drew]); done) | with_reducible apply Box.alloc | (with_reducible apply Box.other; case hne => ((try simp only [World.size_alloc, World.size_setCell, World.size_drew]); omega))))
      have Bv3_5' : Box w6 (v3_5) #[.int .i64 (x), .int .u64 (limb 0 A), .int .u64 (limb 1 A), .int .u64 (limb 2 A), .int .u64 (limb 3 A)] := Box.call hb (by repeat (first | with_reducible assumption | with_reducible apply Box.set10 | with_reducible apply Box.set20 | with_reducible apply Box.set21 | with_reducible apply Box.set40 | with_reducible apply Box.set41 | with_reducible apply Box.set42 | with_reducible apply Box.set43 | with_reducible apply Box.set50 | with_reducible apply Box.set51 | with_reducible apply Box.set52 | with_reducible apply Box.set53 | with_reducible apply Box.set54 | with_reducible apply Box.set80 | with_reducible apply Box.set81 | with_reducible apply Box.set82 | with_reducible apply Box.set83 | with_reducible apply Box.set84 | with_reducible apply Box.set85 | with_reducible apply Box.set86 | with_reducible apply Box.set87 | with_reducible apply Box.drew | (with_reducible apply Box.newAt; (try simp only [World.size_alloc, World.size_setCell, World.size_drew]); done) | with_reducible apply Box.alloc | (with_reducible apply Box.other; case hne => ((try simp only [World.size_alloc, World.size_setCell, World.size_drew]); omega))))
      have Bv3_6' : Box w6 (v3_6) #[.int .i64 (0), .int .u64 (limb 0 B), .int .u64 (limb 1 B), .int .u64 (limb 2 B), .int .u64 (limb 3 B)] := Box.call hb (by repeat (first | with_reducible assumption | with_reducible apply Box.set10 | with_reducible apply Box.set20 | with_reducible apply Box.set21 | with_reducible apply Box.set40 | with_reducible apply Box.set41 | with_reducible apply Box.set42 | with_reducible apply Box.set43 | with_reducible apply Box.set50 | with_reducible apply Box.set51 | with_reducible apply Box.set52 | with_reducible apply Box.set53 | with_reducible apply Box.set54 | with_reducible apply Box.set80 | with_reducible apply Box.set81 | with_reducible apply Box.set82 | with_reducible apply Box.set83 | with_reducible apply Box.set84 | with_reducible apply Box.set85 | with_reducible apply Box.set86 | with_reducible apply Box.set87 | with_reducible apply Box.drew | (with_reducible apply Box.newAt; (try simp only [World.size_alloc, World.size_setCell, World.size_drew]); done) | with_reducible apply Box.alloc | (with_reducible apply Box.other; case hne => ((try simp only [World.size_alloc, World.size_setCell, World.size_drew]); omega))))
      have N2' : IsN w6 vN2 (S) := (IsN.kept N2 (by repeat (first | with_reducible exact Kept.refl _ | with_reducible refine Kept.alloc ?_ _ | with_reducible refine Kept.drew ?_ | with_reducible refine Kept.setCell ?_ (by simp only [World.size_alloc, World.size_setCell, World.size_drew]; omega) _))).call hb
      have N3' : IsN w6 vN3 (B) := (IsN.kept N3 (by repeat (first | with_reducible exact Kept.refl _ | with_reducible refine Kept.alloc ?_ _ | with_reducible refine Kept.drew ?_ | with_reducible refine Kept.setCell ?_ (by simp only [World.size_alloc, World.size_setCell, World.size_drew]; omega) _))).call hb
      have hk' : Kept w.heap.size w w6 := Kept.step (by repeat (first | with_reducible exact hk | with_reducible exact Kept.refl _ | with_reducible refine Kept.alloc ?_ _ | with_reducible refine Kept.drew ?_ | with_reducible refine Kept.setCell ?_ (by simp only [World.size_alloc, World.size_setCell, World.size_drew]; omega) _)) hb
      clear hk hb
      clear X2 X2l1 X2l2 X2l3 X2f X20 X21 X22 X23
      clear Bv3_5 Bv3_5l1 Bv3_5l2 Bv3_5l3 Bv3_5f Bv3_50 Bv3_51 Bv3_52 Bv3_53 Bv3_54
      clear Bv3_6 Bv3_6l1 Bv3_6l2 Bv3_6l3 Bv3_6f Bv3_60 Bv3_61 Bv3_62 Bv3_63 Bv3_64
      have X2 := X2'
      clear X2'
      have Bv3_5 := Bv3_5'
      clear Bv3_5'
      have Bv3_6 := Bv3_6'
      clear Bv3_6'
      clear N2
      have N2 := N2'
      clear N2'
      clear N3
      have N3 := N3'
      clear N3'
      have hk := hk'
      clear hk'
      have hz_w6 := hk.size
      have X2l := X2.lt
      have X2f := X2.free
      have X2l1 : w.heap.size + 1 < w6.heap.size + 1 := by omega
      have X2l2 : w.heap.size + 1 < w6.heap.size + 1 + 1 := by omega
      have X2l3 : w.heap.size + 1 < w6.heap.size + 1 + 1 + 1 := by omega
      have X20 := X2.cell 0 _ rfl
      have X21 := X2.cell 1 _ rfl
      have X22 := X2.cell 2 _ rfl
      have X23 := X2.cell 3 _ rfl
      have Bv3_5l := Bv3_5.lt
      have Bv3_5f := Bv3_5.free
      have Bv3_5l1 : v3_5 < w6.heap.size + 1 := by omega
      have Bv3_5l2 : v3_5 < w6.heap.size + 1 + 1 := by omega
      have Bv3_5l3 : v3_5 < w6.heap.size + 1 + 1 + 1 := by omega
      have Bv3_50 := Bv3_5.cell 0 _ rfl
      have Bv3_51 := Bv3_5.cell 1 _ rfl
      have Bv3_52 := Bv3_5.cell 2 _ rfl
      have Bv3_53 := Bv3_5.cell 3 _ rfl
      have Bv3_54 := Bv3_5.cell 4 _ rfl
      have Bv3_6l := Bv3_6.lt
      have Bv3_6f := Bv3_6.free
      have Bv3_6l1 : v3_6 < w6.heap.size + 1 := by omega
      have Bv3_6l2 : v3_6 < w6.heap.size + 1 + 1 := by omega
      have Bv3_6l3 : v3_6 < w6.heap.size + 1 + 1 + 1 := by omega
      have Bv3_60 := Bv3_6.cell 0 _ rfl
      have Bv3_61 := Bv3_6.cell 1 _ rfl
      have Bv3_62 := Bv3_6.cell 2 _ rfl
      have Bv3_63 := Bv3_6.cell 3 _ rfl
      have Bv3_64 := Bv3_6.cell 4 _ rfl
      have N4 : IsN w6 vN4 (S + B) := N4_
      clear N4_
      clear N3
      go_wp2_with fail
      (with_reducible refine (H1.out _).mono ?_)
      rintro e w7 ⟨rfl, hb⟩
      have X2' : Box w7 (w.heap.size + 1) #[.int .u64 (limb 0 B), .int .u64 (limb 1 B), .int .u64 (limb 2 B), .int .u64 (limb 3 B)] := Box.call hb (by repeat (first | with_reducible assumption | with_reducible apply Box.set10 | with_reducible apply Box.set20 | with_reducible apply Box.set21 | with_reducible apply Box.set40 | with_reducible apply Box.set41 | with_reducible apply Box.set42 | with_reducible apply Box.set43 | with_reducible apply Box.set50 | with_reducible apply Box.set51 | with_reducible apply Box.set52 | with_reducible apply Box.set53 | with_reducible apply Box.set54 | with_reducible apply Box.set80 | with_reducible apply Box.set81 | with_reducible apply Box.set82 | with_reducible apply Box.set83 | with_reducible apply Box.set84 | with_reducible apply Box.set85 | with_reducible apply Box.set86 | with_reducible apply Box.set87 | with_reducible apply Box.drew | (with_reducible apply Box.newAt; (try simp only [World.size_alloc, World.size_setCell, World.size_drew]); done) | with_reducible apply Box.alloc | (with_reducible apply Box.other; case hne => ((try simp only [World.size_alloc, World.size_setCell, World.size_drew]); omega))))
      have Bv3_5' : Box w7 (v3_5) #[.int .i64 (x), .int .u64 (limb 0 A), .int .u64 (limb 1 A), .int .u64 (limb 2 A), .int .u64 (limb 3 A)] := Box.call hb (by repeat (first | with_reducible assumption | with_reducible apply Box.set10 | with_reducible apply Box.set20 | with_reducible apply Box.set21 | with_reducible apply Box.set40 | with_reducible apply Box.set41 | with_reducible apply Box.set42 | with_reducible apply Box.set43 | with_reducible apply Box.set50 | with_reducible apply Box.set51 | with_reducible apply Box.set52 | with_reducible apply Box.set53 | with_reducible apply Box.set54 | with_reducible apply Box.set80 | with_reducible apply Box.set81 | with_reducible apply Box.set82 | with_reducible apply Box.set83 | with_reducible apply Box.set84 | with_reducible apply Box.set85 | with_reducible apply Box.set86 | with_reducible apply Box.set87 | with_reducible apply Box.drew | (with_reducible apply Box.newAt; (try simp only [World.size_alloc, World.size_setCell, World.size_drew]); done) | with_reducible apply Box.alloc | (with_reducible apply Box.other; case hne => ((try simp only [World.size_alloc, World.size_setCell, World.size_drew]); omega))))
      have Bv3_6' : Box w7 (v3_6) #[.int .i64 (0), .int .u64 (limb 0 B), .int .u64 (limb 1 B), .int .u64 (limb 2 B), .int .u64 (limb 3 B)] := Box.call hb (by repeat (first | with_reducible assumption | with_reducible apply Box.set10 | with_reducible apply Box.set20 | with_reducible apply Box.set21 | with_reducible apply Box.set40 | with_reducible apply Box.set41 | with_reducible apply Box.set42 | with_reducible apply Box.set43 | with_reducible apply Box.set50 | with_reducible apply Box.set51 | with_reducible apply Box.set52 | with_reducible apply Box.set53 | with_reducible apply Box.set54 | with_reducible apply Box.set80 | with_reducible apply Box.set81 | with_reducible apply Box.set82 | with_reducible apply Box.set83 | with_reducible apply Box.set84 | with_reducible apply Box.set85 | with_reducible apply Box.set86 | with_reducible apply Box.set87 | with_reducible apply Box.drew | (with_reducible apply Box.newAt; (try simp only [World.size_alloc, World.size_setCell, World.size_drew]); done) | with_reducible apply Box.alloc | (with_reducible apply Box.other; case hne => ((try simp only [World.size_alloc, World.size_setCell, World.size_drew]); omega))))
      have N2' : IsN w7 vN2 (S) := (IsN.kept N2 (by repeat (first | with_reducible exact Kept.refl _ | with_reducible refine Kept.alloc ?_ _ | with_reducible refine Kept.drew ?_ | with_reducible refine Kept.setCell ?_ (by simp only [World.size_alloc, World.size_setCell, World.size_drew]; omega) _))).call hb
      have N4' : IsN w7 vN4 (S + B) := (IsN.kept N4 (by repeat (first | with_reducible exact Kept.refl _ | with_reducible refine Kept.alloc ?_ _ | with_reducible refine Kept.drew ?_ | with_reducible refine Kept.setCell ?_ (by simp only [World.size_alloc, World.size_setCell, World.size_drew]; omega) _))).call hb
      have hk' : Kept w.heap.size w w7 := Kept.step (by repeat (first | with_reducible exact hk | with_reducible exact Kept.refl _ | with_reducible refine Kept.alloc ?_ _ | with_reducible refine Kept.drew ?_ | with_reducible refine Kept.setCell ?_ (by simp only [World.size_alloc, World.size_setCell, World.size_drew]; omega) _)) hb
      clear hk hb
      clear X2 X2l1 X2l2 X2l3 X2f X20 X21 X22 X23
      clear Bv3_5 Bv3_5l1 Bv3_5l2 Bv3_5l3 Bv3_5f Bv3_50 Bv3_51 Bv3_52 Bv3_53 Bv3_54
      clear Bv3_6 Bv3_6l1 Bv3_6l2 Bv3_6l3 Bv3_6f Bv3_60 Bv3_61 Bv3_62 Bv3_63 Bv3_64
      have X2 := X2'
      clear X2'
      have Bv3_5 := Bv3_5'
      clear Bv3_5'
      have Bv3_6 := Bv3_6'
      clear Bv3_6'
      clear N2
      have N2 := N2'
      clear N2'
      clear N4
      have N4 := N4'
      clear N4'
      have hk := hk'
      clear hk'
      have hz_w7 := hk.size
      have X2l := X2.lt
      have X2f := X2.free
      have X2l1 : w.heap.size + 1 < w7.heap.size + 1 := by omega
      have X2l2 : w.heap.size + 1 < w7.heap.size + 1 + 1 := by omega
      have X2l3 : w.heap.size + 1 < w7.heap.size + 1 + 1 + 1 := by omega
      have X20 := X2.cell 0 _ rfl
      have X21 := X2.cell 1 _ rfl
      have X22 := X2.cell 2 _ rfl
      have X23 := X2.cell 3 _ rfl
      have Bv3_5l := Bv3_5.lt
      have Bv3_5f := Bv3_5.free
      have Bv3_5l1 : v3_5 < w7.heap.size + 1 := by omega
      have Bv3_5l2 : v3_5 < w7.heap.size + 1 + 1 := by omega
      have Bv3_5l3 : v3_5 < w7.heap.size + 1 + 1 + 1 := by omega
      have Bv3_50 := Bv3_5.cell 0 _ rfl
      have Bv3_51 := Bv3_5.cell 1 _ rfl
      have Bv3_52 := Bv3_5.cell 2 _ rfl
      have Bv3_53 := Bv3_5.cell 3 _ rfl
      have Bv3_54 := Bv3_5.cell 4 _ rfl
      have Bv3_6l := Bv3_6.lt
      have Bv3_6f := Bv3_6.free
      have Bv3_6l1 : v3_6 < w7.heap.size + 1 := by omega
      have Bv3_6l2 : v3_6 < w7.heap.size + 1 + 1 := by omega
      have Bv3_6l3 : v3_6 < w7.heap.size + 1 + 1 + 1 := by omega
      have Bv3_60 := Bv3_6.cell 0 _ rfl
      have Bv3_61 := Bv3_6.cell 1 _ rfl
      have Bv3_62 := Bv3_6.cell 2 _ rfl
      have Bv3_63 := Bv3_6.cell 3 _ rfl
      have Bv3_64 := Bv3_6.cell 4 _ rfl
      go_upto_region 7 with fail
      refine wp_region_p 16 (fun W' => Kept w.heap.size w W' ∧ w7.heap.size + 1 ≤ W'.heap.size ∧ Box W' (w.heap.size + 1) #[.int .u64 (limb 0 B), .int .u64 (limb 1 B), .int .u64 (limb 2 B), .int .u64 (limb 3 B)] ∧ Box W' (v3_5) #[.int .i64 (x), .int .u64 (limb 0 A), .int .u64 (limb 1 A), .int .u64 (limb 2 A), .int .u64 (limb 3 A)] ∧ Box W' (v3_6) #[.int .i64 (0), .int .u64 (limb 0 B), .int .u64 (limb 1 B), .int .u64 (limb 2 B), .int .u64 (limb 3 B)] ∧ Box W' (w7.heap.size) #[.int .i64 (x + 1), .int .u64 (limb 0 U), .int .u64 (limb 1 U), .int .u64 (limb 2 U), .int .u64 (limb 3 U)] ∧ IsN W' vN2 (S) ∧ IsN W' vN4 (S + B)) (fun W' => Kept w.heap.size w W' ∧ w7.heap.size + 1 ≤ W'.heap.size ∧ Box W' (w.heap.size + 1) #[.int .u64 (limb 0 B), .int .u64 (limb 1 B), .int .u64 (limb 2 B), .int .u64 (limb 3 B)] ∧ Box W' (v3_5) #[.int .i64 (x), .int .u64 (limb 0 A), .int .u64 (limb 1 A), .int .u64 (limb 2 A), .int .u64 (limb 3 A)] ∧ Box W' (v3_6) #[.int .i64 (0), .int .u64 (limb 0 B), .int .u64 (limb 1 B), .int .u64 (limb 2 B), .int .u64 (limb 3 B)] ∧ Box W' (w7.heap.size) #[.int .i64 (x + 1), .int .u64 (limb 0 U), .int .u64 (limb 1 U), .int .u64 (limb 2 U), .int .u64 (limb 3 U)] ∧ IsN W' vN2 (S) ∧ IsN W' vN4 (S + B)) 1000 (w7.heap.size + 1) [.known (.pointer (some ⟨w7.heap.size, 0, none⟩)), .known (.int .i64 (x + 1)), .known (.int .i64 (x)), .known (.int .i64 (x + 1)), .known (.bool false), .known (.bool false), .known (.pointer (some ⟨w7.heap.size, 1, none⟩)), .known (wideV U), .num (U), .num (S + B), .known (.int .i64 (x)), .known (.int .i64 (x + 1)), .num (U), .known (.int .i64 0), .known (.bool false), .known (.bool false)] (by kernel_rfl) (by kernel_rfl) (fun W W' h hb => ⟨h.1.step hb, Nat.le_trans (h.2.1) hb.size, Box.call hb (h.2.2.1), Box.call hb (h.2.2.2.1), Box.call hb (h.2.2.2.2.1), Box.call hb (h.2.2.2.2.2.1), IsN.call (h.2.2.2.2.2.2.1) hb, IsN.call (h.2.2.2.2.2.2.2) hb⟩) (fun W W' h hb => ⟨h.1.step hb, Nat.le_trans (h.2.1) hb.size, Box.call hb (h.2.2.1), Box.call hb (h.2.2.2.1), Box.call hb (h.2.2.2.2.1), Box.call hb (h.2.2.2.2.2.1), IsN.call (h.2.2.2.2.2.2.1) hb, IsN.call (h.2.2.2.2.2.2.2) hb⟩) (no_out (of_decide_eq_true (by kernel_rfl))) (.inl (by kernel_rfl)) (.inl (by kernel_rfl)) (fun _ h => h.2.1) (fun _ h => h.2.1) (⟨(by repeat (first | with_reducible exact hk | with_reducible exact Kept.refl _ | with_reducible refine Kept.alloc ?_ _ | with_reducible refine Kept.drew ?_ | with_reducible refine Kept.setCell ?_ (by simp only [World.size_alloc, World.size_setCell, World.size_drew]; omega) _)), (by (try simp only [World.size_alloc, World.size_setCell, World.size_drew]); omega), (by repeat (first | with_reducible assumption | with_reducible apply Box.set10 | with_reducible apply Box.set20 | with_reducible apply Box.set21 | with_reducible apply Box.set40 | with_reducible apply Box.set41 | with_reducible apply Box.set42 | with_reducible apply Box.set43 | with_reducible apply Box.set50 | with_reducible apply Box.set51 | with_reducible apply Box.set52 | with_reducible apply Box.set53 | with_reducible apply Box.set54 | with_reducible apply Box.set80 | with_reducible apply Box.set81 | with_reducible apply Box.set82 | with_reducible apply Box.set83 | with_reducible apply Box.set84 | with_reducible apply Box.set85 | with_reducible apply Box.set86 | with_reducible apply Box.set87 | with_reducible apply Box.drew | (with_reducible apply Box.newAt; (try simp only [World.size_alloc, World.size_setCell, World.size_drew]); done) | with_reducible apply Box.alloc | (with_reducible apply Box.other; case hne => ((try simp only [World.size_alloc, World.size_setCell, World.size_drew]); omega)))), (by repeat (first | with_reducible assumption | with_reducible apply Box.set10 | with_reducible apply Box.set20 | with_reducible apply Box.set21 | with_reducible apply Box.set40 | with_reducible apply Box.set41 | with_reducible apply Box.set42 | with_reducible apply Box.set43 | with_reducible apply Box.set50 | with_reducible apply Box.set51 | with_reducible apply Box.set52 | with_reducible apply Box.set53 | with_reducible apply Box.set54 | with_reducible apply Box.set80 | with_reducible apply Box.set81 | with_reducible apply Box.set82 | with_reducible apply Box.set83 | with_reducible apply Box.set84 | with_reducible apply Box.set85 | with_reducible apply Box.set86 | with_reducible apply Box.set87 | with_reducible apply Box.drew | (with_reducible apply Box.newAt; (try simp only [World.size_alloc, World.size_setCell, World.size_drew]); done) | with_reducible apply Box.alloc | (with_reducible apply Box.other; case hne => ((try simp only [World.size_alloc, World.size_setCell, World.size_drew]); omega)))), (by repeat (first | with_reducible assumption | with_reducible apply Box.set10 | with_reducible apply Box.set20 | with_reducible apply Box.set21 | with_reducible apply Box.set40 | with_reducible apply Box.set41 | with_reducible apply Box.set42 | with_reducible apply Box.set43 | with_reducible apply Box.set50 | with_reducible apply Box.set51 | with_reducible apply Box.set52 | with_reducible apply Box.set53 | with_reducible apply Box.set54 | with_reducible apply Box.set80 | with_reducible apply Box.set81 | with_reducible apply Box.set82 | with_reducible apply Box.set83 | with_reducible apply Box.set84 | with_reducible apply Box.set85 | with_reducible apply Box.set86 | with_reducible apply Box.set87 | with_reducible apply Box.drew | (with_reducible apply Box.newAt; (try simp only [World.size_alloc, World.size_setCell, World.size_drew]); done) | with_reducible apply Box.alloc | (with_reducible apply Box.other; case hne => ((try simp only [World.size_alloc, World.size_setCell, World.size_drew]); omega)))), (by repeat (first | with_reducible assumption | with_reducible apply Box.set10 | with_reducible apply Box.set20 | with_reducible apply Box.set21 | with_reducible apply Box.set40 | with_reducible apply Box.set41 | with_reducible apply Box.set42 | with_reducible apply Box.set43 | with_reducible apply Box.set50 | with_reducible apply Box.set51 | with_reducible apply Box.set52 | with_reducible apply Box.set53 | with_reducible apply Box.set54 | with_reducible apply Box.set80 | with_reducible apply Box.set81 | with_reducible apply Box.set82 | with_reducible apply Box.set83 | with_reducible apply Box.set84 | with_reducible apply Box.set85 | with_reducible apply Box.set86 | with_reducible apply Box.set87 | with_reducible apply Box.drew | (with_reducible apply Box.newAt; (try simp only [World.size_alloc, World.size_setCell, World.size_drew]); done) | with_reducible apply Box.alloc | (with_reducible apply Box.other; case hne => ((try simp only [World.size_alloc, World.size_setCell, World.size_drew]); omega)))), (IsN.kept N2 (by repeat (first | with_reducible exact Kept.refl _ | with_reducible refine Kept.alloc ?_ _ | with_reducible refine Kept.drew ?_ | with_reducible refine Kept.setCell ?_ (by simp only [World.size_alloc, World.size_setCell, World.size_drew]; omega) _))), (IsN.kept N4 (by repeat (first | with_reducible exact Kept.refl _ | with_reducible refine Kept.alloc ?_ _ | with_reducible refine Kept.drew ?_ | with_reducible refine Kept.setCell ?_ (by simp only [World.size_alloc, World.size_setCell, World.size_drew]; omega) _)))⟩) ?_
      clear hk
      clear X2 X2l1 X2l2 X2l3 X2f X20 X21 X22 X23
      clear Bv3_5 Bv3_5l1 Bv3_5l2 Bv3_5l3 Bv3_5f Bv3_50 Bv3_51 Bv3_52 Bv3_53 Bv3_54
      clear Bv3_6 Bv3_6l1 Bv3_6l2 Bv3_6l3 Bv3_6f Bv3_60 Bv3_61 Bv3_62 Bv3_63 Bv3_64
      clear N2
      clear N4
      intro ρ
      simp only [List.take_succ_cons, List.take_zero, List.drop_succ_cons, List.drop_zero]
      refine ⟨?_, ?_⟩
      · as_aux_lemma =>
        intro y_ hS_ hO_ hD
        clear hS_ hO_ hD
        refine s_gen (V := .pointer (some ⟨w7.heap.size, 0, none⟩)) [.pointer (some ⟨w7.heap.size, 0, none⟩)] (by kernel_rfl) (by kernel_rfl) (by kernel_rfl) ?_
        intro r_ hr_
        have o0_ : r_ (.tmp 12) = .pointer (some ⟨w7.heap.size, 0, none⟩) := op_at hr_ 0 (by kernel_rfl) (by kernel_rfl)
        clear hr_
        go_simp; first | done | with_reducible rfl | omega
      simp only [Act.put, planVG, List.setIfInBounds_toArray, List.set_cons_zero, List.set_cons_succ, List.getElem?_cons_zero, List.getElem?_cons_succ]
      refine ⟨?_, ?_⟩
      · as_aux_lemma =>
        intro y_ hS_ hO_ hD
        have Q := ((hS_ (by rfl)).2.2.2.2.2.1).cell
        have q0 := Q 0 _ rfl
        have q1 := Q 1 _ rfl
        have q2 := Q 2 _ rfl
        have q3 := Q 3 _ rfl
        have q4 := Q 4 _ rfl
        clear Q hS_ hO_ hD
        refine s_gen (V := .int .i64 (x + 1)) [.pointer (some ⟨w7.heap.size, 0, none⟩)] (by kernel_rfl) (by kernel_rfl) (by kernel_rfl) ?_
        intro r_ hr_
        have o0_ : r_ (.tmp 39) = .pointer (some ⟨w7.heap.size, 0, none⟩) := op_at hr_ 0 (by kernel_rfl) (by kernel_rfl)
        clear hr_
        go_simp; first | done | with_reducible rfl
      simp only [Act.put, planVG, List.setIfInBounds_toArray, List.set_cons_zero, List.set_cons_succ, List.getElem?_cons_zero, List.getElem?_cons_succ]
      refine ⟨?_, ?_⟩
      · as_aux_lemma =>
        intro y_ hS_ hO_ hD
        clear hS_ hO_ hD
        refine s_gen (V := .int .i64 (x)) [.int .i64 (x)] (by kernel_rfl) (by kernel_rfl) (by kernel_rfl) ?_
        intro r_ hr_
        have o0_ : r_ (.tmp 7) = .int .i64 (x) := op_at hr_ 0 (by kernel_rfl) (by kernel_rfl)
        clear hr_
        go_simp; first | done | with_reducible rfl | omega
      simp only [Act.put, planVG, List.setIfInBounds_toArray, List.set_cons_zero, List.set_cons_succ, List.getElem?_cons_zero, List.getElem?_cons_succ]
      refine ⟨?_, ?_⟩
      · as_aux_lemma =>
        intro y_ hS_ hO_ hD
        clear hS_ hO_ hD
        refine s_gen (V := .int .i64 (x + 1)) [.int .i64 (x), .int .i64 1] (by kernel_rfl) (by kernel_rfl) (by kernel_rfl) ?_
        intro r_ hr_
        have o0_ : r_ (.tmp 41) = .int .i64 (x) := op_at hr_ 0 (by kernel_rfl) (by kernel_rfl)
        have o1_ : r_ (.const (.int .i64 1)) = .int .i64 1 := op_at hr_ 1 (by kernel_rfl) (by kernel_rfl)
        clear hr_
        go_simp; first | done | with_reducible rfl | omega
      simp only [Act.put, planVG, List.setIfInBounds_toArray, List.set_cons_zero, List.set_cons_succ, List.getElem?_cons_zero, List.getElem?_cons_succ]
      refine ⟨?_, ?_⟩
      · as_aux_lemma =>
        intro y_ hS_ hO_ hD
        clear hS_ hO_ hD
        refine s_gen (V := .bool false) [.int .i64 (x + 1), .int .i64 (x + 1)] (by kernel_rfl) (by kernel_rfl) (by kernel_rfl) ?_
        intro r_ hr_
        have o0_ : r_ (.tmp 40) = .int .i64 (x + 1) := op_at hr_ 0 (by kernel_rfl) (by kernel_rfl)
        have o1_ : r_ (.tmp 42) = .int .i64 (x + 1) := op_at hr_ 1 (by kernel_rfl) (by kernel_rfl)
        clear hr_
        go_simp; first | done | with_reducible rfl | omega
      simp only [Act.put, planVG, List.setIfInBounds_toArray, List.set_cons_zero, List.set_cons_succ, List.getElem?_cons_zero, List.getElem?_cons_succ]
      refine ⟨?_, ?_⟩
      · as_aux_lemma =>
        intro y_ hS_ hO_ hD
        clear hS_ hO_ hD
        refine s_gen (V := .bool false) [.bool false] (by kernel_rfl) (by kernel_rfl) (by kernel_rfl) ?_
        intro r_ hr_
        have o0_ : r_ (.tmp 43) = .bool false := op_at hr_ 0 (by kernel_rfl) (by kernel_rfl)
        clear hr_
        go_simp; first | done | with_reducible rfl | omega
      simp only [Act.put, planVG, List.setIfInBounds_toArray, List.set_cons_zero, List.set_cons_succ, List.getElem?_cons_zero, List.getElem?_cons_succ]
      refine ⟨?_, ?_⟩
      · as_aux_lemma =>
        intro y_ hS_ hO_ hD
        clear hS_ hO_ hD
        refine s_gen (V := .pointer (some ⟨w7.heap.size, 1, none⟩)) [.pointer (some ⟨w7.heap.size, 0, none⟩)] (by kernel_rfl) (by kernel_rfl) (by kernel_rfl) ?_
        intro r_ hr_
        have o0_ : r_ (.tmp 12) = .pointer (some ⟨w7.heap.size, 0, none⟩) := op_at hr_ 0 (by kernel_rfl) (by kernel_rfl)
        clear hr_
        go_simp; first | done | with_reducible rfl | omega
      simp only [Act.put, planVG, List.setIfInBounds_toArray, List.set_cons_zero, List.set_cons_succ, List.getElem?_cons_zero, List.getElem?_cons_succ]
      refine ⟨?_, ?_⟩
      · as_aux_lemma =>
        intro y_ hS_ hO_ hD
        have Q := ((hS_ (by rfl)).2.2.2.2.2.1).cell
        have q0 := Q 0 _ rfl
        have q1 := Q 1 _ rfl
        have q2 := Q 2 _ rfl
        have q3 := Q 3 _ rfl
        have q4 := Q 4 _ rfl
        clear Q hS_ hO_ hD
        refine s_gen (V := wideV U) [.pointer (some ⟨w7.heap.size, 1, none⟩)] (by kernel_rfl) (by kernel_rfl) (by kernel_rfl) ?_
        intro r_ hr_
        have o0_ : r_ (.tmp 45) = .pointer (some ⟨w7.heap.size, 1, none⟩) := op_at hr_ 0 (by kernel_rfl) (by kernel_rfl)
        clear hr_
        go_simp; first | done | with_reducible rfl
      simp only [Act.put, planVG, List.setIfInBounds_toArray, List.set_cons_zero, List.set_cons_succ, List.getElem?_cons_zero, List.getElem?_cons_succ]
      refine ⟨?_, ?_⟩
      · as_aux_lemma =>
        intro y_ hS_ hO_ hD
        try clear hS
        clear hS_ hO_ hD
        refine s_gcallN (A := U) [.func (.func 13) #[] #[], wideV U] ?_ ?_ (by kernel_rfl) (by kernel_rfl) (by kernel_rfl) ?_ ?_
        rotate_left 2
        · intro r_ hr_
          have o0_ : r_ (.func 13) = .func (.func 13) #[] #[] := op_at hr_ 0 (by kernel_rfl) (by kernel_rfl)
          have o1_ : r_ (.tmp 46) = wideV U := op_at hr_ 1 (by kernel_rfl) (by kernel_rfl)
          clear hr_
          go_simp; first | done | with_reducible rfl | (constructor <;> with_reducible rfl)
        · refine refWide_any (IsWide.of hU).w _
      simp only [Act.put, planVG, List.setIfInBounds_toArray, List.set_cons_zero, List.set_cons_succ, List.getElem?_cons_zero, List.getElem?_cons_succ]
      refine ⟨?_, ?_⟩
      · as_aux_lemma =>
        intro y_ hS_ hO_ hD
        have hS := hS_ (by rfl)
        have n_ : IsN y_ (vN4) (S + B) := hS.2.2.2.2.2.2.2
        clear hS hS_ hO_ hD
        exact s_num (by rfl) (by rfl) (by rfl) n_
      simp only [Act.put, planVG, List.setIfInBounds_toArray, List.set_cons_zero, List.set_cons_succ, List.getElem?_cons_zero, List.getElem?_cons_succ]
      refine ⟨?_, ?_⟩
      · as_aux_lemma =>
        intro y_ hS_ hO_ hD
        clear hS_ hO_ hD
        refine s_gen (V := .int .i64 (x)) [.int .i64 (x)] (by kernel_rfl) (by kernel_rfl) (by kernel_rfl) ?_
        intro r_ hr_
        have o0_ : r_ (.tmp 7) = .int .i64 (x) := op_at hr_ 0 (by kernel_rfl) (by kernel_rfl)
        clear hr_
        go_simp; first | done | with_reducible rfl | omega
      simp only [Act.put, planVG, List.setIfInBounds_toArray, List.set_cons_zero, List.set_cons_succ, List.getElem?_cons_zero, List.getElem?_cons_succ]
      refine ⟨?_, ?_⟩
      · as_aux_lemma =>
        intro y_ hS_ hO_ hD
        clear hS_ hO_ hD
        refine s_gen (V := .int .i64 (x + 1)) [.int .i64 (x), .int .i64 1] (by kernel_rfl) (by kernel_rfl) (by kernel_rfl) ?_
        intro r_ hr_
        have o0_ : r_ (.tmp 49) = .int .i64 (x) := op_at hr_ 0 (by kernel_rfl) (by kernel_rfl)
        have o1_ : r_ (.const (.int .i64 1)) = .int .i64 1 := op_at hr_ 1 (by kernel_rfl) (by kernel_rfl)
        clear hr_
        go_simp; first | done | with_reducible rfl | omega
      simp only [Act.put, planVG, List.setIfInBounds_toArray, List.set_cons_zero, List.set_cons_succ, List.getElem?_cons_zero, List.getElem?_cons_succ]
      refine ⟨?_, ?_⟩
      · as_aux_lemma =>
        intro y_ hS_ hO_ hD
        have n_9 : IsN y_ (ρ 9) (S + B) := hD 9 (by decide) (by rfl)
        try clear hS
        clear hS_ hO_ hD
        refine s_gcallN (A := U) [.func (.func 48) #[] #[], ρ 9, .int .i64 (x + 1)] ?_ ?_ (by kernel_rfl) (by kernel_rfl) (by kernel_rfl) ?_ ?_
        rotate_left 2
        · intro r_ hr_
          have o0_ : r_ (.func 48) = .func (.func 48) #[] #[] := op_at hr_ 0 (by kernel_rfl) (by kernel_rfl)
          have o1_ : r_ (.tmp 48) = ρ 9 := op_at hr_ 1 (by kernel_rfl) (by kernel_rfl)
          have o2_ : r_ (.tmp 50) = .int .i64 (x + 1) := op_at hr_ 2 (by kernel_rfl) (by kernel_rfl)
          clear hr_
          go_simp; first | done | with_reducible rfl | (constructor <;> with_reducible rfl)
        · refine refJam_to HU.out (by omega) (by omega) n_9 (by omega)
      simp only [Act.put, planVG, List.setIfInBounds_toArray, List.set_cons_zero, List.set_cons_succ, List.getElem?_cons_zero, List.getElem?_cons_succ]
      refine ⟨?_, ?_⟩
      · as_aux_lemma =>
        intro y_ hS_ hO_ hD
        have n_12 : IsN y_ (ρ 12) (U) := hD 12 (by decide) (by rfl)
        have n_8 : IsN y_ (ρ 8) (U) := hD 8 (by decide) (by rfl)
        try clear hS
        clear hS_ hO_ hD
        refine s_gcall (V := .int .i64 0) [.func (.func 30) #[] #[], ρ 8, ρ 12] ?_ ?_ (by kernel_rfl) (by kernel_rfl) (by kernel_rfl) ?_ ?_
        rotate_left 2
        · intro r_ hr_
          have o0_ : r_ (.func 30) = .func (.func 30) #[] #[] := op_at hr_ 0 (by kernel_rfl) (by kernel_rfl)
          have o1_ : r_ (.tmp 47) = ρ 8 := op_at hr_ 1 (by kernel_rfl) (by kernel_rfl)
          have o2_ : r_ (.tmp 51) = ρ 12 := op_at hr_ 2 (by kernel_rfl) (by kernel_rfl)
          clear hr_
          go_simp; first | done | with_reducible rfl | (constructor <;> with_reducible rfl)
        · refine refCmp_eq (cmp_eq U) _ n_8 n_12 (by omega) (by omega)
      simp only [Act.put, planVG, List.setIfInBounds_toArray, List.set_cons_zero, List.set_cons_succ, List.getElem?_cons_zero, List.getElem?_cons_succ]
      refine ⟨?_, ?_⟩
      · as_aux_lemma =>
        intro y_ hS_ hO_ hD
        clear hS_ hO_ hD
        refine s_gen (V := .bool false) [.int .i64 0, .int .i64 0] (by kernel_rfl) (by kernel_rfl) (by kernel_rfl) ?_
        intro r_ hr_
        have o0_ : r_ (.tmp 52) = .int .i64 0 := op_at hr_ 0 (by kernel_rfl) (by kernel_rfl)
        have o1_ : r_ (.const (.int .i64 0)) = .int .i64 0 := op_at hr_ 1 (by kernel_rfl) (by kernel_rfl)
        clear hr_
        go_simp; first | done | with_reducible rfl | omega
      simp only [Act.put, planVG, List.setIfInBounds_toArray, List.set_cons_zero, List.set_cons_succ, List.getElem?_cons_zero, List.getElem?_cons_succ]
      refine ⟨?_, ?_⟩
      · as_aux_lemma =>
        intro y_ hS_ hO_ hD
        clear hS_ hO_ hD
        refine s_gen (V := .bool false) [.bool false, .bool true, .bool false] (by kernel_rfl) (by kernel_rfl) (by kernel_rfl) ?_
        intro r_ hr_
        have o0_ : r_ (.tmp 44) = .bool false := op_at hr_ 0 (by kernel_rfl) (by kernel_rfl)
        have o1_ : r_ (.const (.bool true)) = .bool true := op_at hr_ 1 (by kernel_rfl) (by kernel_rfl)
        have o2_ : r_ (.tmp 53) = .bool false := op_at hr_ 2 (by kernel_rfl) (by kernel_rfl)
        clear hr_
        go_simp; first | done | with_reducible rfl | omega
      simp only [Act.put, planVG, List.setIfInBounds_toArray, List.set_cons_zero, List.set_cons_succ, List.getElem?_cons_zero, List.getElem?_cons_succ]
      as_aux_lemma =>
        intro w8 hS hF hD_
        change wpList _ _ _ _ _ _
        replace hS := sg_no (by decide) hS
        obtain ⟨hk, hZ8, X2, Bv3_5, Bv3_6, X3, N2, N4⟩ := hS
        have M8 : IsN w8 (ρ 8) (U) := hF 8 (by decide)
        have M9 : IsN w8 (ρ 9) (S + B) := hF 9 (by decide)
        have M12 : IsN w8 (ρ 12) (U) := hF 12 (by decide)
        clear hF hD_
        generalize ρ 8 = u8_8 at *
        generalize ρ 9 = u8_9 at *
        generalize ρ 12 = u8_12 at *
        clear ρ
        have hz_w8 := hk.size
        have X2l := X2.lt
        have X2f := X2.free
        have X2l1 : w.heap.size + 1 < w8.heap.size + 1 := by omega
        have X2l2 : w.heap.size + 1 < w8.heap.size + 1 + 1 := by omega
        have X2l3 : w.heap.size + 1 < w8.heap.size + 1 + 1 + 1 := by omega
        have X20 := X2.cell 0 _ rfl
        have X21 := X2.cell 1 _ rfl
        have X22 := X2.cell 2 _ rfl
        have X23 := X2.cell 3 _ rfl
        have Bv3_5l := Bv3_5.lt
        have Bv3_5f := Bv3_5.free
        have Bv3_5l1 : v3_5 < w8.heap.size + 1 := by omega
        have Bv3_5l2 : v3_5 < w8.heap.size + 1 + 1 := by omega
        have Bv3_5l3 : v3_5 < w8.heap.size + 1 + 1 + 1 := by omega
        have Bv3_50 := Bv3_5.cell 0 _ rfl
        have Bv3_51 := Bv3_5.cell 1 _ rfl
        have Bv3_52 := Bv3_5.cell 2 _ rfl
        have Bv3_53 := Bv3_5.cell 3 _ rfl
        have Bv3_54 := Bv3_5.cell 4 _ rfl
        have Bv3_6l := Bv3_6.lt
        have Bv3_6f := Bv3_6.free
        have Bv3_6l1 : v3_6 < w8.heap.size + 1 := by omega
        have Bv3_6l2 : v3_6 < w8.heap.size + 1 + 1 := by omega
        have Bv3_6l3 : v3_6 < w8.heap.size + 1 + 1 + 1 := by omega
        have Bv3_60 := Bv3_6.cell 0 _ rfl
        have Bv3_61 := Bv3_6.cell 1 _ rfl
        have Bv3_62 := Bv3_6.cell 2 _ rfl
        have Bv3_63 := Bv3_6.cell 3 _ rfl
        have Bv3_64 := Bv3_6.cell 4 _ rfl
        have X3l := X3.lt
        have X3f := X3.free
        have X3l1 : w7.heap.size < w8.heap.size + 1 := by omega
        have X3l2 : w7.heap.size < w8.heap.size + 1 + 1 := by omega
        have X3l3 : w7.heap.size < w8.heap.size + 1 + 1 + 1 := by omega
        have X30 := X3.cell 0 _ rfl
        have X31 := X3.cell 1 _ rfl
        have X32 := X3.cell 2 _ rfl
        have X33 := X3.cell 3 _ rfl
        have X34 := X3.cell 4 _ rfl
        clear M8
        clear M9
        clear M12
        clear N4
        go_wp2_with fail
        (with_reducible refine (H2.out _).mono ?_)
        rintro e w9 ⟨rfl, hb⟩
        have X2' : Box w9 (w.heap.size + 1) #[.int .u64 (limb 0 B), .int .u64 (limb 1 B), .int .u64 (limb 2 B), .int .u64 (limb 3 B)] := Box.call hb (by repeat (first | with_reducible assumption | with_reducible apply Box.set10 | with_reducible apply Box.set20 | with_reducible apply Box.set21 | with_reducible apply Box.set40 | with_reducible apply Box.set41 | with_reducible apply Box.set42 | with_reducible apply Box.set43 | with_reducible apply Box.set50 | with_reducible apply Box.set51 | with_reducible apply Box.set52 | with_reducible apply Box.set53 | with_reducible apply Box.set54 | with_reducible apply Box.set80 | with_reducible apply Box.set81 | with_reducible apply Box.set82 | with_reducible apply Box.set83 | with_reducible apply Box.set84 | with_reducible apply Box.set85 | with_reducible apply Box.set86 | with_reducible apply Box.set87 | with_reducible apply Box.drew | (with_reducible apply Box.newAt; (try simp only [World.size_alloc, World.size_setCell, World.size_drew]); done) | with_reducible apply Box.alloc | (with_reducible apply Box.other; case hne => ((try simp only [World.size_alloc, World.size_setCell, World.size_drew]); omega))))
        have N2' : IsN w9 vN2 (S) := (IsN.kept N2 (by repeat (first | with_reducible exact Kept.refl _ | with_reducible refine Kept.alloc ?_ _ | with_reducible refine Kept.drew ?_ | with_reducible refine Kept.setCell ?_ (by simp only [World.size_alloc, World.size_setCell, World.size_drew]; omega) _))).call hb
        have hk' : Kept w.heap.size w w9 := Kept.step (by repeat (first | with_reducible exact hk | with_reducible exact Kept.refl _ | with_reducible refine Kept.alloc ?_ _ | with_reducible refine Kept.drew ?_ | with_reducible refine Kept.setCell ?_ (by simp only [World.size_alloc, World.size_setCell, World.size_drew]; omega) _)) hb
        clear hk hb
        clear X2 X2l1 X2l2 X2l3 X2f X20 X21 X22 X23
        clear Bv3_5 Bv3_5l1 Bv3_5l2 Bv3_5l3 Bv3_5f Bv3_50 Bv3_51 Bv3_52 Bv3_53 Bv3_54
        clear Bv3_6 Bv3_6l1 Bv3_6l2 Bv3_6l3 Bv3_6f Bv3_60 Bv3_61 Bv3_62 Bv3_63 Bv3_64
        clear X3 X3l1 X3l2 X3l3 X3f X30 X31 X32 X33 X34
        have X2 := X2'
        clear X2'
        clear N2
        have N2 := N2'
        clear N2'
        have hk := hk'
        clear hk'
        have hz_w9 := hk.size
        have X2l := X2.lt
        have X2f := X2.free
        have X2l1 : w.heap.size + 1 < w9.heap.size + 1 := by omega
        have X2l2 : w.heap.size + 1 < w9.heap.size + 1 + 1 := by omega
        have X2l3 : w.heap.size + 1 < w9.heap.size + 1 + 1 + 1 := by omega
        have X20 := X2.cell 0 _ rfl
        have X21 := X2.cell 1 _ rfl
        have X22 := X2.cell 2 _ rfl
        have X23 := X2.cell 3 _ rfl
        go_wp2_with fail
        (with_reducible refine (refWide_any (IsWide.of hB).w _).mono ?_)
        rintro e w10 ⟨vN8, rfl, N8_, hb⟩
        have X4' : Box w10 (w9.heap.size) #[.int .i64 (x), .int .u64 (limb 0 T), .int .u64 (limb 1 T), .int .u64 (limb 2 T), .int .u64 (limb 3 T)] := Box.call hb (by repeat (first | with_reducible assumption | with_reducible apply Box.set10 | with_reducible apply Box.set20 | with_reducible apply Box.set21 | with_reducible apply Box.set40 | with_reducible apply Box.set41 | with_reducible apply Box.set42 | with_reducible apply Box.set43 | with_reducible apply Box.set50 | with_reducible apply Box.set51 | with_reducible apply Box.set52 | with_reducible apply Box.set53 | with_reducible apply Box.set54 | with_reducible apply Box.set80 | with_reducible apply Box.set81 | with_reducible apply Box.set82 | with_reducible apply Box.set83 | with_reducible apply Box.set84 | with_reducible apply Box.set85 | with_reducible apply Box.set86 | with_reducible apply Box.set87 | with_reducible apply Box.drew | (with_reducible apply Box.newAt; (try simp only [World.size_alloc, World.size_setCell, World.size_drew]); done) | with_reducible apply Box.alloc | (with_reducible apply Box.other; case hne => ((try simp only [World.size_alloc, World.size_setCell, World.size_drew]); omega))))
        have N2' : IsN w10 vN2 (S) := (IsN.kept N2 (by repeat (first | with_reducible exact Kept.refl _ | with_reducible refine Kept.alloc ?_ _ | with_reducible refine Kept.drew ?_ | with_reducible refine Kept.setCell ?_ (by simp only [World.size_alloc, World.size_setCell, World.size_drew]; omega) _))).call hb
        have hk' : Kept w.heap.size w w10 := Kept.step (by repeat (first | with_reducible exact hk | with_reducible exact Kept.refl _ | with_reducible refine Kept.alloc ?_ _ | with_reducible refine Kept.drew ?_ | with_reducible refine Kept.setCell ?_ (by simp only [World.size_alloc, World.size_setCell, World.size_drew]; omega) _)) hb
        clear hk hb
        clear X2 X2l1 X2l2 X2l3 X2f X20 X21 X22 X23
        have X4 := X4'
        clear X4'
        clear N2
        have N2 := N2'
        clear N2'
        have hk := hk'
        clear hk'
        have hz_w10 := hk.size
        have X4l := X4.lt
        have X4f := X4.free
        have X4l1 : w9.heap.size < w10.heap.size + 1 := by omega
        have X4l2 : w9.heap.size < w10.heap.size + 1 + 1 := by omega
        have X4l3 : w9.heap.size < w10.heap.size + 1 + 1 + 1 := by omega
        have X40 := X4.cell 0 _ rfl
        have X41 := X4.cell 1 _ rfl
        have X42 := X4.cell 2 _ rfl
        have X43 := X4.cell 3 _ rfl
        have X44 := X4.cell 4 _ rfl
        have N8 : IsN w10 vN8 (B) := N8_
        clear N8_
        go_wp2_with fail
        (with_reducible refine (refCmp_any _ (IsN.kept N2 (by repeat (first | with_reducible exact Kept.refl _ | with_reducible refine Kept.alloc ?_ _ | with_reducible refine Kept.drew ?_ | with_reducible refine Kept.setCell ?_ (by simp only [World.size_alloc, World.size_setCell, World.size_drew]; omega) _))) (IsN.kept N8 (by repeat (first | with_reducible exact Kept.refl _ | with_reducible refine Kept.alloc ?_ _ | with_reducible refine Kept.drew ?_ | with_reducible refine Kept.setCell ?_ (by simp only [World.size_alloc, World.size_setCell, World.size_drew]; omega) _))) (by omega) (by omega)).mono ?_)
        rintro e w11 ⟨rfl, hb⟩
        have X4' : Box w11 (w9.heap.size) #[.int .i64 (x), .int .u64 (limb 0 T), .int .u64 (limb 1 T), .int .u64 (limb 2 T), .int .u64 (limb 3 T)] := Box.call hb (by repeat (first | with_reducible assumption | with_reducible apply Box.set10 | with_reducible apply Box.set20 | with_reducible apply Box.set21 | with_reducible apply Box.set40 | with_reducible apply Box.set41 | with_reducible apply Box.set42 | with_reducible apply Box.set43 | with_reducible apply Box.set50 | with_reducible apply Box.set51 | with_reducible apply Box.set52 | with_reducible apply Box.set53 | with_reducible apply Box.set54 | with_reducible apply Box.set80 | with_reducible apply Box.set81 | with_reducible apply Box.set82 | with_reducible apply Box.set83 | with_reducible apply Box.set84 | with_reducible apply Box.set85 | with_reducible apply Box.set86 | with_reducible apply Box.set87 | with_reducible apply Box.drew | (with_reducible apply Box.newAt; (try simp only [World.size_alloc, World.size_setCell, World.size_drew]); done) | with_reducible apply Box.alloc | (with_reducible apply Box.other; case hne => ((try simp only [World.size_alloc, World.size_setCell, World.size_drew]); omega))))
        have N2' : IsN w11 vN2 (S) := (IsN.kept N2 (by repeat (first | with_reducible exact Kept.refl _ | with_reducible refine Kept.alloc ?_ _ | with_reducible refine Kept.drew ?_ | with_reducible refine Kept.setCell ?_ (by simp only [World.size_alloc, World.size_setCell, World.size_drew]; omega) _))).call hb
        have N8' : IsN w11 vN8 (B) := (IsN.kept N8 (by repeat (first | with_reducible exact Kept.refl _ | with_reducible refine Kept.alloc ?_ _ | with_reducible refine Kept.drew ?_ | with_reducible refine Kept.setCell ?_ (by simp only [World.size_alloc, World.size_setCell, World.size_drew]; omega) _))).call hb
        have hk' : Kept w.heap.size w w11 := Kept.step (by repeat (first | with_reducible exact hk | with_reducible exact Kept.refl _ | with_reducible refine Kept.alloc ?_ _ | with_reducible refine Kept.drew ?_ | with_reducible refine Kept.setCell ?_ (by simp only [World.size_alloc, World.size_setCell, World.size_drew]; omega) _)) hb
        clear hk hb
        clear X4 X4l1 X4l2 X4l3 X4f X40 X41 X42 X43 X44
        have X4 := X4'
        clear X4'
        clear N2
        have N2 := N2'
        clear N2'
        clear N8
        have N8 := N8'
        clear N8'
        have hk := hk'
        clear hk'
        have hz_w11 := hk.size
        have X4l := X4.lt
        have X4f := X4.free
        have X4l1 : w9.heap.size < w11.heap.size + 1 := by omega
        have X4l2 : w9.heap.size < w11.heap.size + 1 + 1 := by omega
        have X4l3 : w9.heap.size < w11.heap.size + 1 + 1 + 1 := by omega
        have X40 := X4.cell 0 _ rfl
        have X41 := X4.cell 1 _ rfl
        have X42 := X4.cell 2 _ rfl
        have X43 := X4.cell 3 _ rfl
        have X44 := X4.cell 4 _ rfl
        go_upto_region 17 with fail
        refine wp_region_p 20 (fun W' => Kept w.heap.size w W' ∧ w11.heap.size ≤ W'.heap.size ∧ Box W' (w9.heap.size) #[.int .i64 (x), .int .u64 (limb 0 T), .int .u64 (limb 1 T), .int .u64 (limb 2 T), .int .u64 (limb 3 T)] ∧ IsN W' vN2 (S) ∧ IsN W' vN8 (B)) (fun W' => Kept w.heap.size w W' ∧ w11.heap.size ≤ W'.heap.size ∧ Box W' (w9.heap.size) #[.int .i64 (x), .int .u64 (limb 0 T), .int .u64 (limb 1 T), .int .u64 (limb 2 T), .int .u64 (limb 3 T)] ∧ IsN W' vN2 (S) ∧ IsN W' vN8 (B)) 1000 (w11.heap.size) [.known (.pointer (some ⟨w9.heap.size, 0, none⟩)), .known (.int .i64 (x)), .known (.int .i64 (x)), .known (.bool true), .known (.bool true), .known (.pointer (some ⟨w9.heap.size, 1, none⟩)), .known (wideV T), .num (T), .num (S), .num (B), .num (S - B), .known (.int .i64 (x)), .num (T), .known (.int .i64 0), .known (.bool true), .known (.bool true), .known (.bool true), .known (.bool true), .known (.bool true), .known (.bool true)] (by kernel_rfl) (by kernel_rfl) (fun W W' h hb => ⟨h.1.step hb, Nat.le_trans (h.2.1) hb.size, Box.call hb (h.2.2.1), IsN.call (h.2.2.2.1) hb, IsN.call (h.2.2.2.2) hb⟩) (fun W W' h hb => ⟨h.1.step hb, Nat.le_trans (h.2.1) hb.size, Box.call hb (h.2.2.1), IsN.call (h.2.2.2.1) hb, IsN.call (h.2.2.2.2) hb⟩) (no_out (of_decide_eq_true (by kernel_rfl))) (.inl (by kernel_rfl)) (.inl (by kernel_rfl)) (fun _ h => h.2.1) (fun _ h => h.2.1) (⟨(by repeat (first | with_reducible exact hk | with_reducible exact Kept.refl _ | with_reducible refine Kept.alloc ?_ _ | with_reducible refine Kept.drew ?_ | with_reducible refine Kept.setCell ?_ (by simp only [World.size_alloc, World.size_setCell, World.size_drew]; omega) _)), (by (try simp only [World.size_alloc, World.size_setCell, World.size_drew]); omega), (by repeat (first | with_reducible assumption | with_reducible apply Box.set10 | with_reducible apply Box.set20 | with_reducible apply Box.set21 | with_reducible apply Box.set40 | with_reducible apply Box.set41 | with_reducible apply Box.set42 | with_reducible apply Box.set43 | with_reducible apply Box.set50 | with_reducible apply Box.set51 | with_reducible apply Box.set52 | with_reducible apply Box.set53 | with_reducible apply Box.set54 | with_reducible apply Box.set80 | with_reducible apply Box.set81 | with_reducible apply Box.set82 | with_reducible apply Box.set83 | with_reducible apply Box.set84 | with_reducible apply Box.set85 | with_reducible apply Box.set86 | with_reducible apply Box.set87 | with_reducible apply Box.drew | (with_reducible apply Box.newAt; (try simp only [World.size_alloc, World.size_setCell, World.size_drew]); done) | with_reducible apply Box.alloc | (with_reducible apply Box.other; case hne => ((try simp only [World.size_alloc, World.size_setCell, World.size_drew]); omega)))), (IsN.kept N2 (by repeat (first | with_reducible exact Kept.refl _ | with_reducible refine Kept.alloc ?_ _ | with_reducible refine Kept.drew ?_ | with_reducible refine Kept.setCell ?_ (by simp only [World.size_alloc, World.size_setCell, World.size_drew]; omega) _))), (IsN.kept N8 (by repeat (first | with_reducible exact Kept.refl _ | with_reducible refine Kept.alloc ?_ _ | with_reducible refine Kept.drew ?_ | with_reducible refine Kept.setCell ?_ (by simp only [World.size_alloc, World.size_setCell, World.size_drew]; omega) _)))⟩) ?_
        clear hk
        clear X4 X4l1 X4l2 X4l3 X4f X40 X41 X42 X43 X44
        clear N2
        clear N8
        intro ρ
        simp only [List.take_succ_cons, List.take_zero, List.drop_succ_cons, List.drop_zero]
        refine ⟨?_, ?_⟩
        · as_aux_lemma =>
          intro y_ hS_ hO_ hD
          clear hS_ hO_ hD
          refine s_gen (V := .pointer (some ⟨w9.heap.size, 0, none⟩)) [.pointer (some ⟨w9.heap.size, 0, none⟩)] (by kernel_rfl) (by kernel_rfl) (by kernel_rfl) ?_
          intro r_ hr_
          have o0_ : r_ (.tmp 13) = .pointer (some ⟨w9.heap.size, 0, none⟩) := op_at hr_ 0 (by kernel_rfl) (by kernel_rfl)
          clear hr_
          go_simp; first | done | with_reducible rfl | omega
        simp only [Act.put, planVG, List.setIfInBounds_toArray, List.set_cons_zero, List.set_cons_succ, List.getElem?_cons_zero, List.getElem?_cons_succ]
        refine ⟨?_, ?_⟩
        · as_aux_lemma =>
          intro y_ hS_ hO_ hD
          have Q := ((hS_ (by rfl)).2.2.1).cell
          have q0 := Q 0 _ rfl
          have q1 := Q 1 _ rfl
          have q2 := Q 2 _ rfl
          have q3 := Q 3 _ rfl
          have q4 := Q 4 _ rfl
          clear Q hS_ hO_ hD
          refine s_gen (V := .int .i64 (x)) [.pointer (some ⟨w9.heap.size, 0, none⟩)] (by kernel_rfl) (by kernel_rfl) (by kernel_rfl) ?_
          intro r_ hr_
          have o0_ : r_ (.tmp 72) = .pointer (some ⟨w9.heap.size, 0, none⟩) := op_at hr_ 0 (by kernel_rfl) (by kernel_rfl)
          clear hr_
          go_simp; first | done | with_reducible rfl
        simp only [Act.put, planVG, List.setIfInBounds_toArray, List.set_cons_zero, List.set_cons_succ, List.getElem?_cons_zero, List.getElem?_cons_succ]
        refine ⟨?_, ?_⟩
        · as_aux_lemma =>
          intro y_ hS_ hO_ hD
          clear hS_ hO_ hD
          refine s_gen (V := .int .i64 (x)) [.int .i64 (x)] (by kernel_rfl) (by kernel_rfl) (by kernel_rfl) ?_
          intro r_ hr_
          have o0_ : r_ (.tmp 7) = .int .i64 (x) := op_at hr_ 0 (by kernel_rfl) (by kernel_rfl)
          clear hr_
          go_simp; first | done | with_reducible rfl | omega
        simp only [Act.put, planVG, List.setIfInBounds_toArray, List.set_cons_zero, List.set_cons_succ, List.getElem?_cons_zero, List.getElem?_cons_succ]
        refine ⟨?_, ?_⟩
        · as_aux_lemma =>
          intro y_ hS_ hO_ hD
          clear hS_ hO_ hD
          refine s_gen (V := .bool true) [.int .i64 (x), .int .i64 (x)] (by kernel_rfl) (by kernel_rfl) (by kernel_rfl) ?_
          intro r_ hr_
          have o0_ : r_ (.tmp 73) = .int .i64 (x) := op_at hr_ 0 (by kernel_rfl) (by kernel_rfl)
          have o1_ : r_ (.tmp 74) = .int .i64 (x) := op_at hr_ 1 (by kernel_rfl) (by kernel_rfl)
          clear hr_
          go_simp; first | done | with_reducible rfl | omega
        simp only [Act.put, planVG, List.setIfInBounds_toArray, List.set_cons_zero, List.set_cons_succ, List.getElem?_cons_zero, List.getElem?_cons_succ]
        refine ⟨?_, ?_⟩
        · as_aux_lemma =>
          intro y_ hS_ hO_ hD
          clear hS_ hO_ hD
          refine s_gen (V := .bool true) [.bool true] (by kernel_rfl) (by kernel_rfl) (by kernel_rfl) ?_
          intro r_ hr_
          have o0_ : r_ (.tmp 75) = .bool true := op_at hr_ 0 (by kernel_rfl) (by kernel_rfl)
          clear hr_
          go_simp; first | done | with_reducible rfl | omega
        simp only [Act.put, planVG, List.setIfInBounds_toArray, List.set_cons_zero, List.set_cons_succ, List.getElem?_cons_zero, List.getElem?_cons_succ]
        refine ⟨?_, ?_⟩
        · as_aux_lemma =>
          intro y_ hS_ hO_ hD
          clear hS_ hO_ hD
          refine s_gen (V := .pointer (some ⟨w9.heap.size, 1, none⟩)) [.pointer (some ⟨w9.heap.size, 0, none⟩)] (by kernel_rfl) (by kernel_rfl) (by kernel_rfl) ?_
          intro r_ hr_
          have o0_ : r_ (.tmp 13) = .pointer (some ⟨w9.heap.size, 0, none⟩) := op_at hr_ 0 (by kernel_rfl) (by kernel_rfl)
          clear hr_
          go_simp; first | done | with_reducible rfl | omega
        simp only [Act.put, planVG, List.setIfInBounds_toArray, List.set_cons_zero, List.set_cons_succ, List.getElem?_cons_zero, List.getElem?_cons_succ]
        refine ⟨?_, ?_⟩
        · as_aux_lemma =>
          intro y_ hS_ hO_ hD
          have Q := ((hS_ (by rfl)).2.2.1).cell
          have q0 := Q 0 _ rfl
          have q1 := Q 1 _ rfl
          have q2 := Q 2 _ rfl
          have q3 := Q 3 _ rfl
          have q4 := Q 4 _ rfl
          clear Q hS_ hO_ hD
          refine s_gen (V := wideV T) [.pointer (some ⟨w9.heap.size, 1, none⟩)] (by kernel_rfl) (by kernel_rfl) (by kernel_rfl) ?_
          intro r_ hr_
          have o0_ : r_ (.tmp 77) = .pointer (some ⟨w9.heap.size, 1, none⟩) := op_at hr_ 0 (by kernel_rfl) (by kernel_rfl)
          clear hr_
          go_simp; first | done | with_reducible rfl
        simp only [Act.put, planVG, List.setIfInBounds_toArray, List.set_cons_zero, List.set_cons_succ, List.getElem?_cons_zero, List.getElem?_cons_succ]
        refine ⟨?_, ?_⟩
        · as_aux_lemma =>
          intro y_ hS_ hO_ hD
          try clear hS
          clear hS_ hO_ hD
          refine s_gcallN (A := T) [.func (.func 13) #[] #[], wideV T] ?_ ?_ (by kernel_rfl) (by kernel_rfl) (by kernel_rfl) ?_ ?_
          rotate_left 2
          · intro r_ hr_
            have o0_ : r_ (.func 13) = .func (.func 13) #[] #[] := op_at hr_ 0 (by kernel_rfl) (by kernel_rfl)
            have o1_ : r_ (.tmp 78) = wideV T := op_at hr_ 1 (by kernel_rfl) (by kernel_rfl)
            clear hr_
            go_simp; first | done | with_reducible rfl | (constructor <;> with_reducible rfl)
          · refine refWide_any (IsWide.of hT).w _
        simp only [Act.put, planVG, List.setIfInBounds_toArray, List.set_cons_zero, List.set_cons_succ, List.getElem?_cons_zero, List.getElem?_cons_succ]
        refine ⟨?_, ?_⟩
        · as_aux_lemma =>
          intro y_ hS_ hO_ hD
          have hS := hS_ (by rfl)
          have n_ : IsN y_ (vN2) (S) := hS.2.2.2.1
          clear hS hS_ hO_ hD
          exact s_num (by rfl) (by rfl) (by rfl) n_
        simp only [Act.put, planVG, List.setIfInBounds_toArray, List.set_cons_zero, List.set_cons_succ, List.getElem?_cons_zero, List.getElem?_cons_succ]
        refine ⟨?_, ?_⟩
        · as_aux_lemma =>
          intro y_ hS_ hO_ hD
          have hS := hS_ (by rfl)
          have n_ : IsN y_ (vN8) (B) := hS.2.2.2.2
          clear hS hS_ hO_ hD
          exact s_num (by rfl) (by rfl) (by rfl) n_
        simp only [Act.put, planVG, List.setIfInBounds_toArray, List.set_cons_zero, List.set_cons_succ, List.getElem?_cons_zero, List.getElem?_cons_succ]
        refine ⟨?_, ?_⟩
        · as_aux_lemma =>
          intro y_ hS_ hO_ hD
          have n_8 : IsN y_ (ρ 8) (S) := hD 8 (by decide) (by rfl)
          have n_9 : IsN y_ (ρ 9) (B) := hD 9 (by decide) (by rfl)
          try clear hS
          clear hS_ hO_ hD
          refine s_gcallN (A := S - B) [.func (.func 31) #[] #[], ρ 8, ρ 9] ?_ ?_ (by kernel_rfl) (by kernel_rfl) (by kernel_rfl) ?_ ?_
          rotate_left 2
          · intro r_ hr_
            have o0_ : r_ (.func 31) = .func (.func 31) #[] #[] := op_at hr_ 0 (by kernel_rfl) (by kernel_rfl)
            have o1_ : r_ (.tmp 80) = ρ 8 := op_at hr_ 1 (by kernel_rfl) (by kernel_rfl)
            have o2_ : r_ (.tmp 81) = ρ 9 := op_at hr_ 2 (by kernel_rfl) (by kernel_rfl)
            clear hr_
            go_simp; first | done | with_reducible rfl | (constructor <;> with_reducible rfl)
          · refine refSub_any _ n_8 n_9 (by omega) (by omega) HLE.out
        simp only [Act.put, planVG, List.setIfInBounds_toArray, List.set_cons_zero, List.set_cons_succ, List.getElem?_cons_zero, List.getElem?_cons_succ]
        refine ⟨?_, ?_⟩
        · as_aux_lemma =>
          intro y_ hS_ hO_ hD
          clear hS_ hO_ hD
          refine s_gen (V := .int .i64 (x)) [.int .i64 (x)] (by kernel_rfl) (by kernel_rfl) (by kernel_rfl) ?_
          intro r_ hr_
          have o0_ : r_ (.tmp 7) = .int .i64 (x) := op_at hr_ 0 (by kernel_rfl) (by kernel_rfl)
          clear hr_
          go_simp; first | done | with_reducible rfl | omega
        simp only [Act.put, planVG, List.setIfInBounds_toArray, List.set_cons_zero, List.set_cons_succ, List.getElem?_cons_zero, List.getElem?_cons_succ]
        refine ⟨?_, ?_⟩
        · as_aux_lemma =>
          intro y_ hS_ hO_ hD
          have n_10 : IsN y_ (ρ 10) (S - B) := hD 10 (by decide) (by rfl)
          try clear hS
          clear hS_ hO_ hD
          refine s_gcallN (A := T) [.func (.func 48) #[] #[], ρ 10, .int .i64 (x)] ?_ ?_ (by kernel_rfl) (by kernel_rfl) (by kernel_rfl) ?_ ?_
          rotate_left 2
          · intro r_ hr_
            have o0_ : r_ (.func 48) = .func (.func 48) #[] #[] := op_at hr_ 0 (by kernel_rfl) (by kernel_rfl)
            have o1_ : r_ (.tmp 82) = ρ 10 := op_at hr_ 1 (by kernel_rfl) (by kernel_rfl)
            have o2_ : r_ (.tmp 83) = .int .i64 (x) := op_at hr_ 2 (by kernel_rfl) (by kernel_rfl)
            clear hr_
            go_simp; first | done | with_reducible rfl | (constructor <;> with_reducible rfl)
          · refine refJam_to HT.out (by omega) (by omega) n_10 (by omega)
        simp only [Act.put, planVG, List.setIfInBounds_toArray, List.set_cons_zero, List.set_cons_succ, List.getElem?_cons_zero, List.getElem?_cons_succ]
        refine ⟨?_, ?_⟩
        · as_aux_lemma =>
          intro y_ hS_ hO_ hD
          have n_12 : IsN y_ (ρ 12) (T) := hD 12 (by decide) (by rfl)
          have n_7 : IsN y_ (ρ 7) (T) := hD 7 (by decide) (by rfl)
          try clear hS
          clear hS_ hO_ hD
          refine s_gcall (V := .int .i64 0) [.func (.func 30) #[] #[], ρ 7, ρ 12] ?_ ?_ (by kernel_rfl) (by kernel_rfl) (by kernel_rfl) ?_ ?_
          rotate_left 2
          · intro r_ hr_
            have o0_ : r_ (.func 30) = .func (.func 30) #[] #[] := op_at hr_ 0 (by kernel_rfl) (by kernel_rfl)
            have o1_ : r_ (.tmp 79) = ρ 7 := op_at hr_ 1 (by kernel_rfl) (by kernel_rfl)
            have o2_ : r_ (.tmp 84) = ρ 12 := op_at hr_ 2 (by kernel_rfl) (by kernel_rfl)
            clear hr_
            go_simp; first | done | with_reducible rfl | (constructor <;> with_reducible rfl)
          · refine refCmp_eq (cmp_eq T) _ n_7 n_12 (by omega) (by omega)
        simp only [Act.put, planVG, List.setIfInBounds_toArray, List.set_cons_zero, List.set_cons_succ, List.getElem?_cons_zero, List.getElem?_cons_succ]
        refine ⟨?_, ?_⟩
        · as_aux_lemma =>
          intro y_ hS_ hO_ hD
          clear hS_ hO_ hD
          refine s_gen (V := .bool true) [.int .i64 0, .int .i64 0] (by kernel_rfl) (by kernel_rfl) (by kernel_rfl) ?_
          intro r_ hr_
          have o0_ : r_ (.tmp 85) = .int .i64 0 := op_at hr_ 0 (by kernel_rfl) (by kernel_rfl)
          have o1_ : r_ (.const (.int .i64 0)) = .int .i64 0 := op_at hr_ 1 (by kernel_rfl) (by kernel_rfl)
          clear hr_
          go_simp; first | done | with_reducible rfl | omega
        simp only [Act.put, planVG, List.setIfInBounds_toArray, List.set_cons_zero, List.set_cons_succ, List.getElem?_cons_zero, List.getElem?_cons_succ]
        refine ⟨?_, ?_⟩
        · as_aux_lemma =>
          intro y_ hS_ hO_ hD
          clear hS_ hO_ hD
          refine s_gen (V := .bool true) [.bool true, .bool true, .bool false] (by kernel_rfl) (by kernel_rfl) (by kernel_rfl) ?_
          intro r_ hr_
          have o0_ : r_ (.tmp 76) = .bool true := op_at hr_ 0 (by kernel_rfl) (by kernel_rfl)
          have o1_ : r_ (.tmp 86) = .bool true := op_at hr_ 1 (by kernel_rfl) (by kernel_rfl)
          have o2_ : r_ (.const (.bool false)) = .bool false := op_at hr_ 2 (by kernel_rfl) (by kernel_rfl)
          clear hr_
          go_simp; first | done | with_reducible rfl | omega
        simp only [Act.put, planVG, List.setIfInBounds_toArray, List.set_cons_zero, List.set_cons_succ, List.getElem?_cons_zero, List.getElem?_cons_succ]
        refine ⟨?_, ?_⟩
        · as_aux_lemma =>
          intro y_ hS_ hO_ hD
          clear hS_ hO_ hD
          refine s_gen (V := .bool true) [.bool true] (by kernel_rfl) (by kernel_rfl) (by kernel_rfl) ?_
          intro r_ hr_
          have o0_ : r_ (.tmp 87) = .bool true := op_at hr_ 0 (by kernel_rfl) (by kernel_rfl)
          clear hr_
          go_simp; first | done | with_reducible rfl | omega
        simp only [Act.put, planVG, List.setIfInBounds_toArray, List.set_cons_zero, List.set_cons_succ, List.getElem?_cons_zero, List.getElem?_cons_succ]
        refine ⟨?_, ?_⟩
        · as_aux_lemma =>
          intro y_ hS_ hO_ hD
          try clear hS
          clear hS_ hO_ hD
          refine s_gcall (V := .bool true) [.func (.func 50) #[] #[]] ?_ ?_ (by kernel_rfl) (by kernel_rfl) (by kernel_rfl) ?_ ?_
          rotate_left 2
          · intro r_ hr_
            have o0_ : r_ (.func 50) = .func (.func 50) #[] #[] := op_at hr_ 0 (by kernel_rfl) (by kernel_rfl)
            clear hr_
            go_simp; first | done | with_reducible rfl | (constructor <;> with_reducible rfl)
          · refine goes17_any _
        simp only [Act.put, planVG, List.setIfInBounds_toArray, List.set_cons_zero, List.set_cons_succ, List.getElem?_cons_zero, List.getElem?_cons_succ]
        refine ⟨?_, ?_⟩
        · as_aux_lemma =>
          intro y_ hS_ hO_ hD
          clear hS_ hO_ hD
          refine s_gen (V := .bool true) [.bool true, .bool true, .bool false] (by kernel_rfl) (by kernel_rfl) (by kernel_rfl) ?_
          intro r_ hr_
          have o0_ : r_ (.tmp 88) = .bool true := op_at hr_ 0 (by kernel_rfl) (by kernel_rfl)
          have o1_ : r_ (.tmp 89) = .bool true := op_at hr_ 1 (by kernel_rfl) (by kernel_rfl)
          have o2_ : r_ (.const (.bool false)) = .bool false := op_at hr_ 2 (by kernel_rfl) (by kernel_rfl)
          clear hr_
          go_simp; first | done | with_reducible rfl | omega
        simp only [Act.put, planVG, List.setIfInBounds_toArray, List.set_cons_zero, List.set_cons_succ, List.getElem?_cons_zero, List.getElem?_cons_succ]
        refine ⟨?_, ?_⟩
        · as_aux_lemma =>
          intro y_ hS_ hO_ hD
          clear hS_ hO_ hD
          refine s_gen (V := .bool true) [.bool true] (by kernel_rfl) (by kernel_rfl) (by kernel_rfl) ?_
          intro r_ hr_
          have o0_ : r_ (.tmp 90) = .bool true := op_at hr_ 0 (by kernel_rfl) (by kernel_rfl)
          clear hr_
          go_simp; first | done | with_reducible rfl | omega
        simp only [Act.put, planVG, List.setIfInBounds_toArray, List.set_cons_zero, List.set_cons_succ, List.getElem?_cons_zero, List.getElem?_cons_succ]
        as_aux_lemma =>
          intro w12 hS hF hD_
          change wpList _ _ _ _ _ _
          replace hS := sg_no (by decide) hS
          obtain ⟨hk, hZ12, X4, N2, N8⟩ := hS
          have M7 : IsN w12 (ρ 7) (T) := hF 7 (by decide)
          have M8 : IsN w12 (ρ 8) (S) := hF 8 (by decide)
          have M9 : IsN w12 (ρ 9) (B) := hF 9 (by decide)
          have M10 : IsN w12 (ρ 10) (S - B) := hF 10 (by decide)
          have M12 : IsN w12 (ρ 12) (T) := hF 12 (by decide)
          clear hF hD_
          generalize ρ 7 = u12_7 at *
          generalize ρ 8 = u12_8 at *
          generalize ρ 9 = u12_9 at *
          generalize ρ 10 = u12_10 at *
          generalize ρ 12 = u12_12 at *
          clear ρ
          have hz_w12 := hk.size
          have X4l := X4.lt
          have X4f := X4.free
          have X4l1 : w9.heap.size < w12.heap.size + 1 := by omega
          have X4l2 : w9.heap.size < w12.heap.size + 1 + 1 := by omega
          have X4l3 : w9.heap.size < w12.heap.size + 1 + 1 + 1 := by omega
          have X40 := X4.cell 0 _ rfl
          have X41 := X4.cell 1 _ rfl
          have X42 := X4.cell 2 _ rfl
          have X43 := X4.cell 3 _ rfl
          have X44 := X4.cell 4 _ rfl
          clear M7
          clear M8
          clear M9
          clear M10
          clear M12
          go_wp2
          go_ret
          exact ⟨rfl, (by refine Kept.below ?_; repeat (first | with_reducible exact hk | with_reducible exact Kept.refl _ | with_reducible refine Kept.alloc ?_ _ | with_reducible refine Kept.drew ?_ | with_reducible refine Kept.setCell ?_ (by simp only [World.size_alloc, World.size_setCell, World.size_drew]; omega) _))⟩

set_option maxRecDepth 100000 in
set_option maxHeartbeats 8000000 in
theorem MagExact_1 {A0 B0 A B S U T k : Nat} {ap x : Int} (eX : x = (k : Int)) (eA : roomN A0 = A) (eB : roomN B0 = B) (hA0 : W256 A0) (hB0 : W256 B0) (hA : W256 A) (hB : W256 B) (hU : W256 U) (hT : W256 T) (p0 : 0 ≤ ap) (p1 : ap ≤ 65535) (pk : ap % 300 = x) (k2 : 0 ≤ x) (k3 : x < 300) (eS : A * 2 ^ k = S) (lS : lenN S ≤ 20) (eU : jamN (S + B) (x + 1) = U) (eT : jamN (B - S) x = T) (hc : S < B) (h1 : ∀ w, Calls Try.prog 47 #[termV x A, termV 0 B] w fun e w' => e = .returned (termV (x + 1) U) ∧ Below w.heap.size w w') (h2 : ∀ w, Calls Try.prog 49 #[termV x A, termV 0 B] w fun e w' => e = .returned (.tuple #[termV x T, .bool true]) ∧ Below w.heap.size w w') (w : World) :
    Calls Try.prog 7 #[wideV A0, wideV B0, .int .u16 ap] w fun e w' => e = .returned (.bool true) ∧ Below w.heap.size w w' := by
  have hk := Kept.refl w
  have HX := Lib.hid eX; have HA := Lib.hid eA; have HB := Lib.hid eB; have HS := Lib.hid eS; have HU := Lib.hid eU; have HT := Lib.hid eT; have H1 := Lib.hid h1; have H2 := Lib.hid h2
  have HLE := Lib.hid (show S ≤ B by omega)
  have c1 : cmpN S B < 0 := by rw [cmp_neg]; omega
  have la := len256 hA; have lb := len256 hB; have lu := len256 hU; have lt := len256 hT
  have lS2 := lenN_add S B
  have lS3 := lenN_sub B S
  have w0_ : IntKind.i64.wrap ap = ap := IntWalk.i64_in _ (by omega)
  have w1_ : IntKind.i64.wrap (x + 1) = x + 1 := IntWalk.i64_in _ (by omega)
  clear eX eA eB eS eU eT h1 h2 hc
  go_enter Try.func7, Try.ntmps7
  go_wp2
  refine wp_region_g 5 (fun W' => Kept w.heap.size w W' ∧ w.heap.size + 1 + 1 ≤ W'.heap.size ∧ Box W' (w.heap.size) #[.int .u64 (limb 0 A0), .int .u64 (limb 1 A0), .int .u64 (limb 2 A0), .int .u64 (limb 3 A0)] ∧ Box W' (w.heap.size + 1) #[.int .u64 (limb 0 B0), .int .u64 (limb 1 B0), .int .u64 (limb 2 B0), .int .u64 (limb 3 B0)]) (fun W' => Kept w.heap.size w W' ∧ w.heap.size + 1 + 1 ≤ W'.heap.size ∧ Box W' (w.heap.size) #[.int .u64 (limb 0 A), .int .u64 (limb 1 A), .int .u64 (limb 2 A), .int .u64 (limb 3 A)] ∧ Box W' (w.heap.size + 1) #[.int .u64 (limb 0 B0), .int .u64 (limb 1 B0), .int .u64 (limb 2 B0), .int .u64 (limb 3 B0)]) 4 (w.heap.size + 1 + 1) [.known (wideV A0), .known (wideV A), .known (wideV B0), .known (wideV B), .out (w.heap.size) [.int .u64 (limb 0 A), .int .u64 (limb 1 A), .int .u64 (limb 2 A), .int .u64 (limb 3 A)]] (by kernel_rfl) (by kernel_rfl) (fun W W' h hb => ⟨h.1.step hb, Nat.le_trans (h.2.1) hb.size, Box.call hb (h.2.2.1), Box.call hb (h.2.2.2)⟩) (fun W W' h hb => ⟨h.1.step hb, Nat.le_trans (h.2.1) hb.size, Box.call hb (h.2.2.1), Box.call hb (h.2.2.2)⟩) (fun b V e => by
    obtain ⟨rfl, rfl⟩ : b = w.heap.size ∧ V = [.int .u64 (limb 0 A), .int .u64 (limb 1 A), .int .u64 (limb 2 A), .int .u64 (limb 3 A)] := by injection e with e; injection e with e1 e2; exact ⟨e1.symm, e2.symm⟩
    exact ⟨by omega, fun w' h => ⟨(by simp only [putCells]; exact ((((h.1).setCell (p := ⟨w.heap.size, 0, none⟩) (by simp only []; omega) _).setCell (p := ⟨w.heap.size, 1, none⟩) (by simp only []; omega) _).setCell (p := ⟨w.heap.size, 2, none⟩) (by simp only []; omega) _).setCell (p := ⟨w.heap.size, 3, none⟩) (by simp only []; omega) _), (by rw [putCells_size]; exact h.2.1), (by simp only [putCells]; with_reducible apply Box.set43; with_reducible apply Box.set42; with_reducible apply Box.set41; with_reducible apply Box.set40; exact h.2.2.1), (by simp only [putCells]; exact ((((h.2.2.2).other (by omega)).other (by omega)).other (by omega)).other (by omega))⟩⟩) (.inl (by kernel_rfl)) (.inl (by kernel_rfl)) (fun _ h => h.2.1) (fun _ h => h.2.1) (⟨(by repeat (first | with_reducible exact hk | with_reducible exact Kept.refl _ | with_reducible refine Kept.alloc ?_ _ | with_reducible refine Kept.drew ?_ | with_reducible refine Kept.setCell ?_ (by simp only [World.size_alloc, World.size_setCell, World.size_drew]; omega) _)), (by (try simp only [World.size_alloc, World.size_setCell, World.size_drew]); omega), (by repeat (first | with_reducible assumption | with_reducible apply Box.set10 | with_reducible apply Box.set20 | with_reducible apply Box.set21 | with_reducible apply Box.set40 | with_reducible apply Box.set41 | with_reducible apply Box.set42 | with_reducible apply Box.set43 | with_reducible apply Box.set50 | with_reducible apply Box.set51 | with_reducible apply Box.set52 | with_reducible apply Box.set53 | with_reducible apply Box.set54 | with_reducible apply Box.set80 | with_reducible apply Box.set81 | with_reducible apply Box.set82 | with_reducible apply Box.set83 | with_reducible apply Box.set84 | with_reducible apply Box.set85 | with_reducible apply Box.set86 | with_reducible apply Box.set87 | with_reducible apply Box.drew | (with_reducible apply Box.newAt; (try simp only [World.size_alloc, World.size_setCell, World.size_drew]); done) | with_reducible apply Box.alloc | (with_reducible apply Box.other; case hne => ((try simp only [World.size_alloc, World.size_setCell, World.size_drew]); omega)))), (by repeat (first | with_reducible assumption | with_reducible apply Box.set10 | with_reducible apply Box.set20 | with_reducible apply Box.set21 | with_reducible apply Box.set40 | with_reducible apply Box.set41 | with_reducible apply Box.set42 | with_reducible apply Box.set43 | with_reducible apply Box.set50 | with_reducible apply Box.set51 | with_reducible apply Box.set52 | with_reducible apply Box.set53 | with_reducible apply Box.set54 | with_reducible apply Box.set80 | with_reducible apply Box.set81 | with_reducible apply Box.set82 | with_reducible apply Box.set83 | with_reducible apply Box.set84 | with_reducible apply Box.set85 | with_reducible apply Box.set86 | with_reducible apply Box.set87 | with_reducible apply Box.drew | (with_reducible apply Box.newAt; (try simp only [World.size_alloc, World.size_setCell, World.size_drew]); done) | with_reducible apply Box.alloc | (with_reducible apply Box.other; case hne => ((try simp only [World.size_alloc, World.size_setCell, World.size_drew]); omega))))⟩) ?_
  clear hk
  intro ρ
  simp only [List.take_succ_cons, List.take_zero, List.drop_succ_cons, List.drop_zero]
  refine ⟨?_, ?_⟩
  · as_aux_lemma =>
    intro y_ hS_ hO_ hD
    have Q := ((hS_ (by rfl)).2.2.1).cell
    have q0 := Q 0 _ rfl
    have q1 := Q 1 _ rfl
    have q2 := Q 2 _ rfl
    have q3 := Q 3 _ rfl
    clear Q hS_ hO_ hD
    refine s_gen (V := wideV A0) [.pointer (some ⟨w.heap.size, 0, none⟩)] (by kernel_rfl) (by kernel_rfl) (by kernel_rfl) ?_
    intro r_ hr_
    have o0_ : r_ (.tmp 3) = .pointer (some ⟨w.heap.size, 0, none⟩) := op_at hr_ 0 (by kernel_rfl) (by kernel_rfl)
    clear hr_
    go_simp; first | done | with_reducible rfl
  simp only [Act.put, planVG, List.setIfInBounds_toArray, List.set_cons_zero, List.set_cons_succ, List.getElem?_cons_zero, List.getElem?_cons_succ]
  refine ⟨?_, ?_⟩
  · as_aux_lemma =>
    intro y_ hS_ hO_ hD
    try clear hS
    clear hS_ hO_ hD
    refine s_gcall (V := wideV A) [.func (.func 46) #[] #[], wideV A0] ?_ ?_ (by kernel_rfl) (by kernel_rfl) (by kernel_rfl) ?_ ?_
    rotate_left 2
    · intro r_ hr_
      have o0_ : r_ (.func 46) = .func (.func 46) #[] #[] := op_at hr_ 0 (by kernel_rfl) (by kernel_rfl)
      have o1_ : r_ (.tmp 16) = wideV A0 := op_at hr_ 1 (by kernel_rfl) (by kernel_rfl)
      clear hr_
      go_simp; first | done | with_reducible rfl | (constructor <;> with_reducible rfl)
    · refine room_any HA.out _
  simp only [Act.put, planVG, List.setIfInBounds_toArray, List.set_cons_zero, List.set_cons_succ, List.getElem?_cons_zero, List.getElem?_cons_succ]
  refine ⟨?_, ?_⟩
  · as_aux_lemma =>
    intro y_ hS_ hO_ hD
    have Q := (hO_.elim (fun h => h.2.2.2) (fun h => h.2.2.2)).cell
    have q0 := Q 0 _ rfl
    have q1 := Q 1 _ rfl
    have q2 := Q 2 _ rfl
    have q3 := Q 3 _ rfl
    clear Q hS_ hO_ hD
    refine s_gen (V := wideV B0) [.pointer (some ⟨w.heap.size + 1, 0, none⟩)] (by kernel_rfl) (by kernel_rfl) (by kernel_rfl) ?_
    intro r_ hr_
    have o0_ : r_ (.tmp 4) = .pointer (some ⟨w.heap.size + 1, 0, none⟩) := op_at hr_ 0 (by kernel_rfl) (by kernel_rfl)
    clear hr_
    go_simp; first | done | with_reducible rfl
  simp only [Act.put, planVG, List.setIfInBounds_toArray, List.set_cons_zero, List.set_cons_succ, List.getElem?_cons_zero, List.getElem?_cons_succ]
  refine ⟨?_, ?_⟩
  · as_aux_lemma =>
    intro y_ hS_ hO_ hD
    try clear hS
    clear hS_ hO_ hD
    refine s_gcall (V := wideV B) [.func (.func 46) #[] #[], wideV B0] ?_ ?_ (by kernel_rfl) (by kernel_rfl) (by kernel_rfl) ?_ ?_
    rotate_left 2
    · intro r_ hr_
      have o0_ : r_ (.func 46) = .func (.func 46) #[] #[] := op_at hr_ 0 (by kernel_rfl) (by kernel_rfl)
      have o1_ : r_ (.tmp 18) = wideV B0 := op_at hr_ 1 (by kernel_rfl) (by kernel_rfl)
      clear hr_
      go_simp; first | done | with_reducible rfl | (constructor <;> with_reducible rfl)
    · refine room_any HB.out _
  simp only [Act.put, planVG, List.setIfInBounds_toArray, List.set_cons_zero, List.set_cons_succ, List.getElem?_cons_zero, List.getElem?_cons_succ]
  refine ⟨?_, ?_⟩
  · as_aux_lemma =>
    intro y_ hS_ hO_ hD
    have Q := ((hS_ (by rfl)).2.2.1).cell
    have q0 := Q 0 _ rfl
    have q1 := Q 1 _ rfl
    have q2 := Q 2 _ rfl
    have q3 := Q 3 _ rfl
    have Qf := ((hS_ (by rfl)).2.2.1).free
    have Ql := ((hS_ (by rfl)).2.2.1).lt
    clear Q hS_ hO_ hD
    refine s_gout (b := w.heap.size) (V := [.int .u64 (limb 0 A), .int .u64 (limb 1 A), .int .u64 (limb 2 A), .int .u64 (limb 3 A)]) [.pointer (some ⟨w.heap.size, 0, none⟩), wideV A] (by kernel_rfl) (by kernel_rfl) (by kernel_rfl) ?_
    intro r_ hr_
    have o0_ : r_ (.tmp 3) = .pointer (some ⟨w.heap.size, 0, none⟩) := op_at hr_ 0 (by kernel_rfl) (by kernel_rfl)
    have o1_ : r_ (.tmp 17) = wideV A := op_at hr_ 1 (by kernel_rfl) (by kernel_rfl)
    clear hr_
    simp only [putCells]
    go_simp; first | done | with_reducible rfl | rfl
  simp only [Act.put, planVG, List.setIfInBounds_toArray, List.set_cons_zero, List.set_cons_succ, List.getElem?_cons_zero, List.getElem?_cons_succ]
  as_aux_lemma =>
    intro w1 hS hF hD_
    change wpList _ _ _ _ _ _
    replace hS := sg_yes (by decide) hS
    obtain ⟨hk, hZ1, X1, X2⟩ := hS
    clear hF hD_
    clear ρ
    have hz_w1 := hk.size
    have X1l := X1.lt
    have X1f := X1.free
    have X1l1 : w.heap.size < w1.heap.size + 1 := by omega
    have X1l2 : w.heap.size < w1.heap.size + 1 + 1 := by omega
    have X1l3 : w.heap.size < w1.heap.size + 1 + 1 + 1 := by omega
    have X10 := X1.cell 0 _ rfl
    have X11 := X1.cell 1 _ rfl
    have X12 := X1.cell 2 _ rfl
    have X13 := X1.cell 3 _ rfl
    have X2l := X2.lt
    have X2f := X2.free
    have X2l1 : w.heap.size + 1 < w1.heap.size + 1 := by omega
    have X2l2 : w.heap.size + 1 < w1.heap.size + 1 + 1 := by omega
    have X2l3 : w.heap.size + 1 < w1.heap.size + 1 + 1 + 1 := by omega
    have X20 := X2.cell 0 _ rfl
    have X21 := X2.cell 1 _ rfl
    have X22 := X2.cell 2 _ rfl
    have X23 := X2.cell 3 _ rfl
    go_wp2
    simp only [pk]
    refine wp_region_g 9 (fun W' => Kept w.heap.size w W' ∧ w1.heap.size ≤ W'.heap.size ∧ Box W' (w.heap.size) #[.int .u64 (limb 0 A), .int .u64 (limb 1 A), .int .u64 (limb 2 A), .int .u64 (limb 3 A)] ∧ Box W' (w.heap.size + 1) #[.int .u64 (limb 0 B), .int .u64 (limb 1 B), .int .u64 (limb 2 B), .int .u64 (limb 3 B)]) (fun W' => Kept w.heap.size w W' ∧ w1.heap.size ≤ W'.heap.size ∧ Box W' (w.heap.size) #[.int .u64 (limb 0 A), .int .u64 (limb 1 A), .int .u64 (limb 2 A), .int .u64 (limb 3 A)] ∧ Box W' (w.heap.size + 1) #[.int .u64 (limb 0 B), .int .u64 (limb 1 B), .int .u64 (limb 2 B), .int .u64 (limb 3 B)]) 1000 (w1.heap.size) [.known (.int .i64 (x)), .known (wideV A), .known (termV x A), .known (wideV B), .known (termV 0 B), .var #[.int .i64 0, .int .u64 0, .int .u64 0, .int .u64 0, .int .u64 0] 7 [.int .i64 (x), .int .u64 (limb 0 A), .int .u64 (limb 1 A), .int .u64 (limb 2 A), .int .u64 (limb 3 A)], .var #[.int .i64 0, .int .u64 0, .int .u64 0, .int .u64 0, .int .u64 0] 8 [.int .i64 (0), .int .u64 (limb 0 B), .int .u64 (limb 1 B), .int .u64 (limb 2 B), .int .u64 (limb 3 B)], .put 5, .put 6] (by kernel_rfl) (by kernel_rfl) (fun W W' h hb => ⟨h.1.step hb, Nat.le_trans (h.2.1) hb.size, Box.call hb (h.2.2.1), Box.call hb (h.2.2.2)⟩) (fun W W' h hb => ⟨h.1.step hb, Nat.le_trans (h.2.1) hb.size, Box.call hb (h.2.2.1), Box.call hb (h.2.2.2)⟩) (no_out (of_decide_eq_true (by kernel_rfl))) (.inr (fun W' b i v hb h => ⟨h.1.setCell (p := ⟨b, i, none⟩) (by simp only []; omega) v, (by rw [World.size_setCell]; exact h.2.1), (h.2.2.1).other (by omega), (h.2.2.2).other (by omega)⟩)) (.inr (fun W' b i v hb h => ⟨h.1.setCell (p := ⟨b, i, none⟩) (by simp only []; omega) v, (by rw [World.size_setCell]; exact h.2.1), (h.2.2.1).other (by omega), (h.2.2.2).other (by omega)⟩)) (fun _ h => h.2.1) (fun _ h => h.2.1) (⟨(by repeat (first | with_reducible exact hk | with_reducible exact Kept.refl _ | with_reducible refine Kept.alloc ?_ _ | with_reducible refine Kept.drew ?_ | with_reducible refine Kept.setCell ?_ (by simp only [World.size_alloc, World.size_setCell, World.size_drew]; omega) _)), (by (try simp only [World.size_alloc, World.size_setCell, World.size_drew]); omega), (by repeat (first | with_reducible assumption | with_reducible apply Box.set10 | with_reducible apply Box.set20 | with_reducible apply Box.set21 | with_reducible apply Box.set40 | with_reducible apply Box.set41 | with_reducible apply Box.set42 | with_reducible apply Box.set43 | with_reducible apply Box.set50 | with_reducible apply Box.set51 | with_reducible apply Box.set52 | with_reducible apply Box.set53 | with_reducible apply Box.set54 | with_reducible apply Box.set80 | with_reducible apply Box.set81 | with_reducible apply Box.set82 | with_reducible apply Box.set83 | with_reducible apply Box.set84 | with_reducible apply Box.set85 | with_reducible apply Box.set86 | with_reducible apply Box.set87 | with_reducible apply Box.drew | (with_reducible apply Box.newAt; (try simp only [World.size_alloc, World.size_setCell, World.size_drew]); done) | with_reducible apply Box.alloc | (with_reducible apply Box.other; case hne => ((try simp only [World.size_alloc, World.size_setCell, World.size_drew]); omega)))), (by repeat (first | with_reducible assumption | with_reducible apply Box.set10 | with_reducible apply Box.set20 | with_reducible apply Box.set21 | with_reducible apply Box.set40 | with_reducible apply Box.set41 | with_reducible apply Box.set42 | with_reducible apply Box.set43 | with_reducible apply Box.set50 | with_reducible apply Box.set51 | with_reducible apply Box.set52 | with_reducible apply Box.set53 | with_reducible apply Box.set54 | with_reducible apply Box.set80 | with_reducible apply Box.set81 | with_reducible apply Box.set82 | with_reducible apply Box.set83 | with_reducible apply Box.set84 | with_reducible apply Box.set85 | with_reducible apply Box.set86 | with_reducible apply Box.set87 | with_reducible apply Box.drew | (with_reducible apply Box.newAt; (try simp only [World.size_alloc, World.size_setCell, World.size_drew]); done) | with_reducible apply Box.alloc | (with_reducible apply Box.other; case hne => ((try simp only [World.size_alloc, World.size_setCell, World.size_drew]); omega))))⟩) ?_
    clear hk
    clear X1 X1l1 X1l2 X1l3 X1f X10 X11 X12 X13
    clear X2 X2l1 X2l2 X2l3 X2f X20 X21 X22 X23
    intro ρ
    simp only [List.take_succ_cons, List.take_zero, List.drop_succ_cons, List.drop_zero]
    refine ⟨?_, ?_⟩
    · as_aux_lemma =>
      intro y_ hS_ hO_ hD
      clear hS_ hO_ hD
      refine s_gen (V := .int .i64 (x)) [.int .i64 (x)] (by kernel_rfl) (by kernel_rfl) (by kernel_rfl) ?_
      intro r_ hr_
      have o0_ : r_ (.tmp 7) = .int .i64 (x) := op_at hr_ 0 (by kernel_rfl) (by kernel_rfl)
      clear hr_
      go_simp; first | done | with_reducible rfl | omega
    simp only [Act.put, planVG, List.setIfInBounds_toArray, List.set_cons_zero, List.set_cons_succ, List.getElem?_cons_zero, List.getElem?_cons_succ]
    refine ⟨?_, ?_⟩
    · as_aux_lemma =>
      intro y_ hS_ hO_ hD
      have Q := ((hS_ (by rfl)).2.2.1).cell
      have q0 := Q 0 _ rfl
      have q1 := Q 1 _ rfl
      have q2 := Q 2 _ rfl
      have q3 := Q 3 _ rfl
      clear Q hS_ hO_ hD
      refine s_gen (V := wideV A) [.pointer (some ⟨w.heap.size, 0, none⟩)] (by kernel_rfl) (by kernel_rfl) (by kernel_rfl) ?_
      intro r_ hr_
      have o0_ : r_ (.tmp 3) = .pointer (some ⟨w.heap.size, 0, none⟩) := op_at hr_ 0 (by kernel_rfl) (by kernel_rfl)
      clear hr_
      go_simp; first | done | with_reducible rfl
    simp only [Act.put, planVG, List.setIfInBounds_toArray, List.set_cons_zero, List.set_cons_succ, List.getElem?_cons_zero, List.getElem?_cons_succ]
    refine ⟨?_, ?_⟩
    · as_aux_lemma =>
      intro y_ hS_ hO_ hD
      clear hS_ hO_ hD
      refine s_gen (V := termV x A) [.int .i64 (x), wideV A] (by kernel_rfl) (by kernel_rfl) (by kernel_rfl) ?_
      intro r_ hr_
      have o0_ : r_ (.tmp 23) = .int .i64 (x) := op_at hr_ 0 (by kernel_rfl) (by kernel_rfl)
      have o1_ : r_ (.tmp 24) = wideV A := op_at hr_ 1 (by kernel_rfl) (by kernel_rfl)
      clear hr_
      go_simp; first | done | with_reducible rfl | omega
    simp only [Act.put, planVG, List.setIfInBounds_toArray, List.set_cons_zero, List.set_cons_succ, List.getElem?_cons_zero, List.getElem?_cons_succ]
    refine ⟨?_, ?_⟩
    · as_aux_lemma =>
      intro y_ hS_ hO_ hD
      have Q := ((hS_ (by rfl)).2.2.2).cell
      have q0 := Q 0 _ rfl
      have q1 := Q 1 _ rfl
      have q2 := Q 2 _ rfl
      have q3 := Q 3 _ rfl
      clear Q hS_ hO_ hD
      refine s_gen (V := wideV B) [.pointer (some ⟨w.heap.size + 1, 0, none⟩)] (by kernel_rfl) (by kernel_rfl) (by kernel_rfl) ?_
      intro r_ hr_
      have o0_ : r_ (.tmp 4) = .pointer (some ⟨w.heap.size + 1, 0, none⟩) := op_at hr_ 0 (by kernel_rfl) (by kernel_rfl)
      clear hr_
      go_simp; first | done | with_reducible rfl
    simp only [Act.put, planVG, List.setIfInBounds_toArray, List.set_cons_zero, List.set_cons_succ, List.getElem?_cons_zero, List.getElem?_cons_succ]
    refine ⟨?_, ?_⟩
    · as_aux_lemma =>
      intro y_ hS_ hO_ hD
      clear hS_ hO_ hD
      refine s_gen (V := termV 0 B) [wideV B] (by kernel_rfl) (by kernel_rfl) (by kernel_rfl) ?_
      intro r_ hr_
      have o0_ : r_ (.tmp 26) = wideV B := op_at hr_ 0 (by kernel_rfl) (by kernel_rfl)
      clear hr_
      go_simp; first | done | with_reducible rfl | omega
    simp only [Act.put, planVG, List.setIfInBounds_toArray, List.set_cons_zero, List.set_cons_succ, List.getElem?_cons_zero, List.getElem?_cons_succ]
    refine ⟨?_, ?_⟩
    · as_aux_lemma =>
      intro y_ hS_ hO_ hD
      clear hS_ hO_ hD
      refine s_alloc (by rfl) (by rfl) ?_
      simp only [allocTy]
      go_simp; first | done | with_reducible rfl | rfl
    simp only [Act.put, planVG, List.setIfInBounds_toArray, List.set_cons_zero, List.set_cons_succ, List.getElem?_cons_zero, List.getElem?_cons_succ]
    refine ⟨?_, ?_⟩
    · as_aux_lemma =>
      intro y_ hS_ hO_ hD
      clear hS_ hO_ hD
      refine s_alloc (by rfl) (by rfl) ?_
      simp only [allocTy]
      go_simp; first | done | with_reducible rfl | rfl
    simp only [Act.put, planVG, List.setIfInBounds_toArray, List.set_cons_zero, List.set_cons_succ, List.getElem?_cons_zero, List.getElem?_cons_succ]
    refine ⟨?_, ?_⟩
    · as_aux_lemma =>
      intro y_ hS_ hO_ hD
      have hS := hS_ (by rfl)
      clear hS hS_ hO_ hD
      refine s_gput (j := 5) (Z := #[.int .i64 0, .int .u64 0, .int .u64 0, .int .u64 0, .int .u64 0]) (V := [.int .i64 (x), .int .u64 (limb 0 A), .int .u64 (limb 1 A), .int .u64 (limb 2 A), .int .u64 (limb 3 A)]) [ρ 5, termV x A] (by kernel_rfl) (by kernel_rfl) (by kernel_rfl) (by kernel_rfl) ?_
      intro r_ b hr_ hb hB F
      have o0_ : r_ (.tmp 8) = ρ 5 := op_at hr_ 0 (by kernel_rfl) (by kernel_rfl)
      have o1_ : r_ (.tmp 25) = termV x A := op_at hr_ 1 (by kernel_rfl) (by kernel_rfl)
      clear hr_
      rw [hb] at o0_
      have Q := F.cell
      have q0 := Q 0 _ rfl
      have q1 := Q 1 _ rfl
      have q2 := Q 2 _ rfl
      have q3 := Q 3 _ rfl
      have q4 := Q 4 _ rfl
      have Qf := F.free
      have Ql := F.lt
      clear Q F
      simp only [putCells]
      go_simp; first | done | with_reducible rfl | rfl
    simp only [Act.put, planVG, List.setIfInBounds_toArray, List.set_cons_zero, List.set_cons_succ, List.getElem?_cons_zero, List.getElem?_cons_succ]
    refine ⟨?_, ?_⟩
    · as_aux_lemma =>
      intro y_ hS_ hO_ hD
      have hS := hS_ (by rfl)
      clear hS hS_ hO_ hD
      refine s_gput (j := 6) (Z := #[.int .i64 0, .int .u64 0, .int .u64 0, .int .u64 0, .int .u64 0]) (V := [.int .i64 (0), .int .u64 (limb 0 B), .int .u64 (limb 1 B), .int .u64 (limb 2 B), .int .u64 (limb 3 B)]) [ρ 6, termV 0 B] (by kernel_rfl) (by kernel_rfl) (by kernel_rfl) (by kernel_rfl) ?_
      intro r_ b hr_ hb hB F
      have o0_ : r_ (.tmp 9) = ρ 6 := op_at hr_ 0 (by kernel_rfl) (by kernel_rfl)
      have o1_ : r_ (.tmp 27) = termV 0 B := op_at hr_ 1 (by kernel_rfl) (by kernel_rfl)
      clear hr_
      rw [hb] at o0_
      have Q := F.cell
      have q0 := Q 0 _ rfl
      have q1 := Q 1 _ rfl
      have q2 := Q 2 _ rfl
      have q3 := Q 3 _ rfl
      have q4 := Q 4 _ rfl
      have Qf := F.free
      have Ql := F.lt
      clear Q F
      simp only [putCells]
      go_simp; first | done | with_reducible rfl | rfl
    simp only [Act.put, planVG, List.setIfInBounds_toArray, List.set_cons_zero, List.set_cons_succ, List.getElem?_cons_zero, List.getElem?_cons_succ]
    as_aux_lemma =>
      intro w2 hS hF hD_
      change wpList _ _ _ _ _ _
      replace hS := sg_no (by decide) hS
      obtain ⟨hk, hZ2, X1, X2⟩ := hS
      obtain ⟨v3_5, e_v3_5, hv3_5, Bv3_5⟩ : ∃ b, ρ 5 = .pointer (some ⟨b, 0, none⟩) ∧ w1.heap.size ≤ b ∧ Box w2 b #[.int .i64 (x), .int .u64 (limb 0 A), .int .u64 (limb 1 A), .int .u64 (limb 2 A), .int .u64 (limb 3 A)] := by
        obtain ⟨b, h1, h2, h3⟩ := hF 5 (by decide)
        exact ⟨b, h1, h2, h3.lt, h3.cell, h3.free⟩
      obtain ⟨v3_6, e_v3_6, hv3_6, Bv3_6⟩ : ∃ b, ρ 6 = .pointer (some ⟨b, 0, none⟩) ∧ w1.heap.size ≤ b ∧ Box w2 b #[.int .i64 (0), .int .u64 (limb 0 B), .int .u64 (limb 1 B), .int .u64 (limb 2 B), .int .u64 (limb 3 B)] := by
        obtain ⟨b, h1, h2, h3⟩ := hF 6 (by decide)
        exact ⟨b, h1, h2, h3.lt, h3.cell, h3.free⟩
      have nv3_5_v3_6 : ¬ v3_5 = v3_6 := fun h => hD_ 5 6 (by decide) (by decide) (by decide) (by rfl) (by rfl) (by rw [e_v3_5, e_v3_6, h])
      have nv3_6_v3_5 : ¬ v3_6 = v3_5 := fun h => nv3_5_v3_6 h.symm
      clear hF hD_
      simp only [e_v3_5]
      clear e_v3_5
      simp only [e_v3_6]
      clear e_v3_6
      clear ρ
      have hz_w2 := hk.size
      have X1l := X1.lt
      have X1f := X1.free
      have X1l1 : w.heap.size < w2.heap.size + 1 := by omega
      have X1l2 : w.heap.size < w2.heap.size + 1 + 1 := by omega
      have X1l3 : w.heap.size < w2.heap.size + 1 + 1 + 1 := by omega
      have X10 := X1.cell 0 _ rfl
      have X11 := X1.cell 1 _ rfl
      have X12 := X1.cell 2 _ rfl
      have X13 := X1.cell 3 _ rfl
      have X2l := X2.lt
      have X2f := X2.free
      have X2l1 : w.heap.size + 1 < w2.heap.size + 1 := by omega
      have X2l2 : w.heap.size + 1 < w2.heap.size + 1 + 1 := by omega
      have X2l3 : w.heap.size + 1 < w2.heap.size + 1 + 1 + 1 := by omega
      have X20 := X2.cell 0 _ rfl
      have X21 := X2.cell 1 _ rfl
      have X22 := X2.cell 2 _ rfl
      have X23 := X2.cell 3 _ rfl
      have Bv3_5l := Bv3_5.lt
      have Bv3_5f := Bv3_5.free
      have Bv3_5l1 : v3_5 < w2.heap.size + 1 := by omega
      have Bv3_5l2 : v3_5 < w2.heap.size + 1 + 1 := by omega
      have Bv3_5l3 : v3_5 < w2.heap.size + 1 + 1 + 1 := by omega
      have Bv3_50 := Bv3_5.cell 0 _ rfl
      have Bv3_51 := Bv3_5.cell 1 _ rfl
      have Bv3_52 := Bv3_5.cell 2 _ rfl
      have Bv3_53 := Bv3_5.cell 3 _ rfl
      have Bv3_54 := Bv3_5.cell 4 _ rfl
      have Bv3_6l := Bv3_6.lt
      have Bv3_6f := Bv3_6.free
      have Bv3_6l1 : v3_6 < w2.heap.size + 1 := by omega
      have Bv3_6l2 : v3_6 < w2.heap.size + 1 + 1 := by omega
      have Bv3_6l3 : v3_6 < w2.heap.size + 1 + 1 + 1 := by omega
      have Bv3_60 := Bv3_6.cell 0 _ rfl
      have Bv3_61 := Bv3_6.cell 1 _ rfl
      have Bv3_62 := Bv3_6.cell 2 _ rfl
      have Bv3_63 := Bv3_6.cell 3 _ rfl
      have Bv3_64 := Bv3_6.cell 4 _ rfl
      go_wp2_with fail
      (with_reducible refine (refWide_any (IsWide.of hA).w _).mono ?_)
      rintro e w3 ⟨vN1, rfl, N1_, hb⟩
      have X2' : Box w3 (w.heap.size + 1) #[.int .u64 (limb 0 B), .int .u64 (limb 1 B), .int .u64 (limb 2 B), .int .u64 (limb 3 B)] := Box.call hb (by repeat (first | with_reducible assumption | with_reducible apply Box.set10 | with_reducible apply Box.set20 | with_reducible apply Box.set21 | with_reducible apply Box.set40 | with_reducible apply Box.set41 | with_reducible apply Box.set42 | with_reducible apply Box.set43 | with_reducible apply Box.set50 | with_reducible apply Box.set51 | with_reducible apply Box.set52 | with_reducible apply Box.set53 | with_reducible apply Box.set54 | with_reducible apply Box.set80 | with_reducible apply Box.set81 | with_reducible apply Box.set82 | with_reducible apply Box.set83 | with_reducible apply Box.set84 | with_reducible apply Box.set85 | with_reducible apply Box.set86 | with_reducible apply Box.set87 | with_reducible apply Box.drew | (with_reducible apply Box.newAt; (try simp only [World.size_alloc, World.size_setCell, World.size_drew]); done) | with_reducible apply Box.alloc | (with_reducible apply Box.other; case hne => ((try simp only [World.size_alloc, World.size_setCell, World.size_drew]); omega))))
      have Bv3_5' : Box w3 (v3_5) #[.int .i64 (x), .int .u64 (limb 0 A), .int .u64 (limb 1 A), .int .u64 (limb 2 A), .int .u64 (limb 3 A)] := Box.call hb (by repeat (first | with_reducible assumption | with_reducible apply Box.set10 | with_reducible apply Box.set20 | with_reducible apply Box.set21 | with_reducible apply Box.set40 | with_reducible apply Box.set41 | with_reducible apply Box.set42 | with_reducible apply Box.set43 | with_reducible apply Box.set50 | with_reducible apply Box.set51 | with_reducible apply Box.set52 | with_reducible apply Box.set53 | with_reducible apply Box.set54 | with_reducible apply Box.set80 | with_reducible apply Box.set81 | with_reducible apply Box.set82 | with_reducible apply Box.set83 | with_reducible apply Box.set84 | with_reducible apply Box.set85 | with_reducible apply Box.set86 | with_reducible apply Box.set87 | with_reducible apply Box.drew | (with_reducible apply Box.newAt; (try simp only [World.size_alloc, World.size_setCell, World.size_drew]); done) | with_reducible apply Box.alloc | (with_reducible apply Box.other; case hne => ((try simp only [World.size_alloc, World.size_setCell, World.size_drew]); omega))))
      have Bv3_6' : Box w3 (v3_6) #[.int .i64 (0), .int .u64 (limb 0 B), .int .u64 (limb 1 B), .int .u64 (limb 2 B), .int .u64 (limb 3 B)] := Box.call hb (by repeat (first | with_reducible assumption | with_reducible apply Box.set10 | with_reducible apply Box.set20 | with_reducible apply Box.set21 | with_reducible apply Box.set40 | with_reducible apply Box.set41 | with_reducible apply Box.set42 | with_reducible apply Box.set43 | with_reducible apply Box.set50 | with_reducible apply Box.set51 | with_reducible apply Box.set52 | with_reducible apply Box.set53 | with_reducible apply Box.set54 | with_reducible apply Box.set80 | with_reducible apply Box.set81 | with_reducible apply Box.set82 | with_reducible apply Box.set83 | with_reducible apply Box.set84 | with_reducible apply Box.set85 | with_reducible apply Box.set86 | with_reducible apply Box.set87 | with_reducible apply Box.drew | (with_reducible apply Box.newAt; (try simp only [World.size_alloc, World.size_setCell, World.size_drew]); done) | with_reducible apply Box.alloc | (with_reducible apply Box.other; case hne => ((try simp only [World.size_alloc, World.size_setCell, World.size_drew]); omega))))
      have hk' : Kept w.heap.size w w3 := Kept.step (by repeat (first | with_reducible exact hk | with_reducible exact Kept.refl _ | with_reducible refine Kept.alloc ?_ _ | with_reducible refine Kept.drew ?_ | with_reducible refine Kept.setCell ?_ (by simp only [World.size_alloc, World.size_setCell, World.size_drew]; omega) _)) hb
      clear hk hb
      clear X1 X1l1 X1l2 X1l3 X1f X10 X11 X12 X13
      clear X2 X2l1 X2l2 X2l3 X2f X20 X21 X22 X23
      clear Bv3_5 Bv3_5l1 Bv3_5l2 Bv3_5l3 Bv3_5f Bv3_50 Bv3_51 Bv3_52 Bv3_53 Bv3_54
      clear Bv3_6 Bv3_6l1 Bv3_6l2 Bv3_6l3 Bv3_6f Bv3_60 Bv3_61 Bv3_62 Bv3_63 Bv3_64
      have X2 := X2'
      clear X2'
      have Bv3_5 := Bv3_5'
      clear Bv3_5'
      have Bv3_6 := Bv3_6'
      clear Bv3_6'
      have hk := hk'
      clear hk'
      have hz_w3 := hk.size
      have X2l := X2.lt
      have X2f := X2.free
      have X2l1 : w.heap.size + 1 < w3.heap.size + 1 := by omega
      have X2l2 : w.heap.size + 1 < w3.heap.size + 1 + 1 := by omega
      have X2l3 : w.heap.size + 1 < w3.heap.size + 1 + 1 + 1 := by omega
      have X20 := X2.cell 0 _ rfl
      have X21 := X2.cell 1 _ rfl
      have X22 := X2.cell 2 _ rfl
      have X23 := X2.cell 3 _ rfl
      have Bv3_5l := Bv3_5.lt
      have Bv3_5f := Bv3_5.free
      have Bv3_5l1 : v3_5 < w3.heap.size + 1 := by omega
      have Bv3_5l2 : v3_5 < w3.heap.size + 1 + 1 := by omega
      have Bv3_5l3 : v3_5 < w3.heap.size + 1 + 1 + 1 := by omega
      have Bv3_50 := Bv3_5.cell 0 _ rfl
      have Bv3_51 := Bv3_5.cell 1 _ rfl
      have Bv3_52 := Bv3_5.cell 2 _ rfl
      have Bv3_53 := Bv3_5.cell 3 _ rfl
      have Bv3_54 := Bv3_5.cell 4 _ rfl
      have Bv3_6l := Bv3_6.lt
      have Bv3_6f := Bv3_6.free
      have Bv3_6l1 : v3_6 < w3.heap.size + 1 := by omega
      have Bv3_6l2 : v3_6 < w3.heap.size + 1 + 1 := by omega
      have Bv3_6l3 : v3_6 < w3.heap.size + 1 + 1 + 1 := by omega
      have Bv3_60 := Bv3_6.cell 0 _ rfl
      have Bv3_61 := Bv3_6.cell 1 _ rfl
      have Bv3_62 := Bv3_6.cell 2 _ rfl
      have Bv3_63 := Bv3_6.cell 3 _ rfl
      have Bv3_64 := Bv3_6.cell 4 _ rfl
      have N1 : IsN w3 vN1 (A) := N1_
      clear N1_
      go_wp2_with fail
      (with_reducible refine (refShl_to k HS.out HX.out (by have := HX.out; omega) _ (IsN.kept N1 (by repeat (first | with_reducible exact Kept.refl _ | with_reducible refine Kept.alloc ?_ _ | with_reducible refine Kept.drew ?_ | with_reducible refine Kept.setCell ?_ (by simp only [World.size_alloc, World.size_setCell, World.size_drew]; omega) _))) (by omega)).mono ?_)
      rintro e w4 ⟨vN2, rfl, N2_, hb⟩
      have X2' : Box w4 (w.heap.size + 1) #[.int .u64 (limb 0 B), .int .u64 (limb 1 B), .int .u64 (limb 2 B), .int .u64 (limb 3 B)] := Box.call hb (by repeat (first | with_reducible assumption | with_reducible apply Box.set10 | with_reducible apply Box.set20 | with_reducible apply Box.set21 | with_reducible apply Box.set40 | with_reducible apply Box.set41 | with_reducible apply Box.set42 | with_reducible apply Box.set43 | with_reducible apply Box.set50 | with_reducible apply Box.set51 | with_reducible apply Box.set52 | with_reducible apply Box.set53 | with_reducible apply Box.set54 | with_reducible apply Box.set80 | with_reducible apply Box.set81 | with_reducible apply Box.set82 | with_reducible apply Box.set83 | with_reducible apply Box.set84 | with_reducible apply Box.set85 | with_reducible apply Box.set86 | with_reducible apply Box.set87 | with_reducible apply Box.drew | (with_reducible apply Box.newAt; (try simp only [World.size_alloc, World.size_setCell, World.size_drew]); done) | with_reducible apply Box.alloc | (with_reducible apply Box.other; case hne => ((try simp only [World.size_alloc, World.size_setCell, World.size_drew]); omega))))
      have Bv3_5' : Box w4 (v3_5) #[.int .i64 (x), .int .u64 (limb 0 A), .int .u64 (limb 1 A), .int .u64 (limb 2 A), .int .u64 (limb 3 A)] := Box.call hb (by repeat (first | with_reducible assumption | with_reducible apply Box.set10 | with_reducible apply Box.set20 | with_reducible apply Box.set21 | with_reducible apply Box.set40 | with_reducible apply Box.set41 | with_reducible apply Box.set42 | with_reducible apply Box.set43 | with_reducible apply Box.set50 | with_reducible apply Box.set51 | with_reducible apply Box.set52 | with_reducible apply Box.set53 | with_reducible apply Box.set54 | with_reducible apply Box.set80 | with_reducible apply Box.set81 | with_reducible apply Box.set82 | with_reducible apply Box.set83 | with_reducible apply Box.set84 | with_reducible apply Box.set85 | with_reducible apply Box.set86 | with_reducible apply Box.set87 | with_reducible apply Box.drew | (with_reducible apply Box.newAt; (try simp only [World.size_alloc, World.size_setCell, World.size_drew]); done) | with_reducible apply Box.alloc | (with_reducible apply Box.other; case hne => ((try simp only [World.size_alloc, World.size_setCell, World.size_drew]); omega))))
      have Bv3_6' : Box w4 (v3_6) #[.int .i64 (0), .int .u64 (limb 0 B), .int .u64 (limb 1 B), .int .u64 (limb 2 B), .int .u64 (limb 3 B)] := Box.call hb (by repeat (first | with_reducible assumption | with_reducible apply Box.set10 | with_reducible apply Box.set20 | with_reducible apply Box.set21 | with_reducible apply Box.set40 | with_reducible apply Box.set41 | with_reducible apply Box.set42 | with_reducible apply Box.set43 | with_reducible apply Box.set50 | with_reducible apply Box.set51 | with_reducible apply Box.set52 | with_reducible apply Box.set53 | with_reducible apply Box.set54 | with_reducible apply Box.set80 | with_reducible apply Box.set81 | with_reducible apply Box.set82 | with_reducible apply Box.set83 | with_reducible apply Box.set84 | with_reducible apply Box.set85 | with_reducible apply Box.set86 | with_reducible apply Box.set87 | with_reducible apply Box.drew | (with_reducible apply Box.newAt; (try simp only [World.size_alloc, World.size_setCell, World.size_drew]); done) | with_reducible apply Box.alloc | (with_reducible apply Box.other; case hne => ((try simp only [World.size_alloc, World.size_setCell, World.size_drew]); omega))))
      have N1' : IsN w4 vN1 (A) := (IsN.kept N1 (by repeat (first | with_reducible exact Kept.refl _ | with_reducible refine Kept.alloc ?_ _ | with_reducible refine Kept.drew ?_ | with_reducible refine Kept.setCell ?_ (by simp only [World.size_alloc, World.size_setCell, World.size_drew]; omega) _))).call hb
      have hk' : Kept w.heap.size w w4 := Kept.step (by repeat (first | with_reducible exact hk | with_reducible exact Kept.refl _ | with_reducible refine Kept.alloc ?_ _ | with_reducible refine Kept.drew ?_ | with_reducible refine Kept.setCell ?_ (by simp only [World.size_alloc, World.size_setCell, World.size_drew]; omega) _)) hb
      clear hk hb
      clear X2 X2l1 X2l2 X2l3 X2f X20 X21 X22 X23
      clear Bv3_5 Bv3_5l1 Bv3_5l2 Bv3_5l3 Bv3_5f Bv3_50 Bv3_51 Bv3_52 Bv3_53 Bv3_54
      clear Bv3_6 Bv3_6l1 Bv3_6l2 Bv3_6l3 Bv3_6f Bv3_60 Bv3_61 Bv3_62 Bv3_63 Bv3_64
      have X2 := X2'
      clear X2'
      have Bv3_5 := Bv3_5'
      clear Bv3_5'
      have Bv3_6 := Bv3_6'
      clear Bv3_6'
      clear N1
      have N1 := N1'
      clear N1'
      have hk := hk'
      clear hk'
      have hz_w4 := hk.size
      have X2l := X2.lt
      have X2f := X2.free
      have X2l1 : w.heap.size + 1 < w4.heap.size + 1 := by omega
      have X2l2 : w.heap.size + 1 < w4.heap.size + 1 + 1 := by omega
      have X2l3 : w.heap.size + 1 < w4.heap.size + 1 + 1 + 1 := by omega
      have X20 := X2.cell 0 _ rfl
      have X21 := X2.cell 1 _ rfl
      have X22 := X2.cell 2 _ rfl
      have X23 := X2.cell 3 _ rfl
      have Bv3_5l := Bv3_5.lt
      have Bv3_5f := Bv3_5.free
      have Bv3_5l1 : v3_5 < w4.heap.size + 1 := by omega
      have Bv3_5l2 : v3_5 < w4.heap.size + 1 + 1 := by omega
      have Bv3_5l3 : v3_5 < w4.heap.size + 1 + 1 + 1 := by omega
      have Bv3_50 := Bv3_5.cell 0 _ rfl
      have Bv3_51 := Bv3_5.cell 1 _ rfl
      have Bv3_52 := Bv3_5.cell 2 _ rfl
      have Bv3_53 := Bv3_5.cell 3 _ rfl
      have Bv3_54 := Bv3_5.cell 4 _ rfl
      have Bv3_6l := Bv3_6.lt
      have Bv3_6f := Bv3_6.free
      have Bv3_6l1 : v3_6 < w4.heap.size + 1 := by omega
      have Bv3_6l2 : v3_6 < w4.heap.size + 1 + 1 := by omega
      have Bv3_6l3 : v3_6 < w4.heap.size + 1 + 1 + 1 := by omega
      have Bv3_60 := Bv3_6.cell 0 _ rfl
      have Bv3_61 := Bv3_6.cell 1 _ rfl
      have Bv3_62 := Bv3_6.cell 2 _ rfl
      have Bv3_63 := Bv3_6.cell 3 _ rfl
      have Bv3_64 := Bv3_6.cell 4 _ rfl
      have N2 : IsN w4 vN2 (S) := N2_
      clear N2_
      clear N1
      go_wp2_with fail
      (with_reducible refine (refWide_any (IsWide.of hB).w _).mono ?_)
      rintro e w5 ⟨vN3, rfl, N3_, hb⟩
      have X2' : Box w5 (w.heap.size + 1) #[.int .u64 (limb 0 B), .int .u64 (limb 1 B), .int .u64 (limb 2 B), .int .u64 (limb 3 B)] := Box.call hb (by repeat (first | with_reducible assumption | with_reducible apply Box.set10 | with_reducible apply Box.set20 | with_reducible apply Box.set21 | with_reducible apply Box.set40 | with_reducible apply Box.set41 | with_reducible apply Box.set42 | with_reducible apply Box.set43 | with_reducible apply Box.set50 | with_reducible apply Box.set51 | with_reducible apply Box.set52 | with_reducible apply Box.set53 | with_reducible apply Box.set54 | with_reducible apply Box.set80 | with_reducible apply Box.set81 | with_reducible apply Box.set82 | with_reducible apply Box.set83 | with_reducible apply Box.set84 | with_reducible apply Box.set85 | with_reducible apply Box.set86 | with_reducible apply Box.set87 | with_reducible apply Box.drew | (with_reducible apply Box.newAt; (try simp only [World.size_alloc, World.size_setCell, World.size_drew]); done) | with_reducible apply Box.alloc | (with_reducible apply Box.other; case hne => ((try simp only [World.size_alloc, World.size_setCell, World.size_drew]); omega))))
      have Bv3_5' : Box w5 (v3_5) #[.int .i64 (x), .int .u64 (limb 0 A), .int .u64 (limb 1 A), .int .u64 (limb 2 A), .int .u64 (limb 3 A)] := Box.call hb (by repeat (first | with_reducible assumption | with_reducible apply Box.set10 | with_reducible apply Box.set20 | with_reducible apply Box.set21 | with_reducible apply Box.set40 | with_reducible apply Box.set41 | with_reducible apply Box.set42 | with_reducible apply Box.set43 | with_reducible apply Box.set50 | with_reducible apply Box.set51 | with_reducible apply Box.set52 | with_reducible apply Box.set53 | with_reducible apply Box.set54 | with_reducible apply Box.set80 | with_reducible apply Box.set81 | with_reducible apply Box.set82 | with_reducible apply Box.set83 | with_reducible apply Box.set84 | with_reducible apply Box.set85 | with_reducible apply Box.set86 | with_reducible apply Box.set87 | with_reducible apply Box.drew | (with_reducible apply Box.newAt; (try simp only [World.size_alloc, World.size_setCell, World.size_drew]); done) | with_reducible apply Box.alloc | (with_reducible apply Box.other; case hne => ((try simp only [World.size_alloc, World.size_setCell, World.size_drew]); omega))))
      have Bv3_6' : Box w5 (v3_6) #[.int .i64 (0), .int .u64 (limb 0 B), .int .u64 (limb 1 B), .int .u64 (limb 2 B), .int .u64 (limb 3 B)] := Box.call hb (by repeat (first | with_reducible assumption | with_reducible apply Box.set10 | with_reducible apply Box.set20 | with_reducible apply Box.set21 | with_reducible apply Box.set40 | with_reducible apply Box.set41 | with_reducible apply Box.set42 | with_reducible apply Box.set43 | with_reducible apply Box.set50 | with_reducible apply Box.set51 | with_reducible apply Box.set52 | with_reducible apply Box.set53 | with_reducible apply Box.set54 | with_reducible apply Box.set80 | with_reducible apply Box.set81 | with_reducible apply Box.set82 | with_reducible apply Box.set83 | with_reducible apply Box.set84 | with_reducible apply Box.set85 | with_reducible apply Box.set86 | with_reducible apply Box.set87 | with_reducible apply Box.drew | (with_reducible apply Box.newAt; (try simp only [World.size_alloc, World.size_setCell, World.size_drew]); done) | with_reducible apply Box.alloc | (with_reducible apply Box.other; case hne => ((try simp only [World.size_alloc, World.size_setCell, World.size_drew]); omega))))
      have N2' : IsN w5 vN2 (S) := (IsN.kept N2 (by repeat (first | with_reducible exact Kept.refl _ | with_reducible refine Kept.alloc ?_ _ | with_reducible refine Kept.drew ?_ | with_reducible refine Kept.setCell ?_ (by simp only [World.size_alloc, World.size_setCell, World.size_drew]; omega) _))).call hb
      have hk' : Kept w.heap.size w w5 := Kept.step (by repeat (first | with_reducible exact hk | with_reducible exact Kept.refl _ | with_reducible refine Kept.alloc ?_ _ | with_reducible refine Kept.drew ?_ | with_reducible refine Kept.setCell ?_ (by simp only [World.size_alloc, World.size_setCell, World.size_drew]; omega) _)) hb
      clear hk hb
      clear X2 X2l1 X2l2 X2l3 X2f X20 X21 X22 X23
      clear Bv3_5 Bv3_5l1 Bv3_5l2 Bv3_5l3 Bv3_5f Bv3_50 Bv3_51 Bv3_52 Bv3_53 Bv3_54
      clear Bv3_6 Bv3_6l1 Bv3_6l2 Bv3_6l3 Bv3_6f Bv3_60 Bv3_61 Bv3_62 Bv3_63 Bv3_64
      have X2 := X2'
      clear X2'
      have Bv3_5 := Bv3_5'
      clear Bv3_5'
      have Bv3_6 := Bv3_6'
      clear Bv3_6'
      clear N2
      have N2 := N2'
      clear N2'
      have hk := hk'
      clear hk'
      have hz_w5 := hk.size
      have X2l := X2.lt
      have X2f := X2.free
      have X2l1 : w.heap.size + 1 < w5.heap.size + 1 := by omega
      have X2l2 : w.heap.size + 1 < w5.heap.size + 1 + 1 := by omega
      have X2l3 : w.heap.size + 1 < w5.heap.size + 1 + 1 + 1 := by omega
      have X20 := X2.cell 0 _ rfl
      have X21 := X2.cell 1 _ rfl
      have X22 := X2.cell 2 _ rfl
      have X23 := X2.cell 3 _ rfl
      have Bv3_5l := Bv3_5.lt
      have Bv3_5f := Bv3_5.free
      have Bv3_5l1 : v3_5 < w5.heap.size + 1 := by omega
      have Bv3_5l2 : v3_5 < w5.heap.size + 1 + 1 := by omega
      have Bv3_5l3 : v3_5 < w5.heap.size + 1 + 1 + 1 := by omega
      have Bv3_50 := Bv3_5.cell 0 _ rfl
      have Bv3_51 := Bv3_5.cell 1 _ rfl
      have Bv3_52 := Bv3_5.cell 2 _ rfl
      have Bv3_53 := Bv3_5.cell 3 _ rfl
      have Bv3_54 := Bv3_5.cell 4 _ rfl
      have Bv3_6l := Bv3_6.lt
      have Bv3_6f := Bv3_6.free
      have Bv3_6l1 : v3_6 < w5.heap.size + 1 := by omega
      have Bv3_6l2 : v3_6 < w5.heap.size + 1 + 1 := by omega
      have Bv3_6l3 : v3_6 < w5.heap.size + 1 + 1 + 1 := by omega
      have Bv3_60 := Bv3_6.cell 0 _ rfl
      have Bv3_61 := Bv3_6.cell 1 _ rfl
      have Bv3_62 := Bv3_6.cell 2 _ rfl
      have Bv3_63 := Bv3_6.cell 3 _ rfl
      have Bv3_64 := Bv3_6.cell 4 _ rfl
      have N3 : IsN w5 vN3 (B) := N3_
      clear N3_
      go_wp2_with fail
      (with_reducible refine (refAdd_any _ (IsN.kept N2 (by repeat (first | with_reducible exact Kept.refl _ | with_reducible refine Kept.alloc ?_ _ | with_reducible refine Kept.drew ?_ | with_reducible refine Kept.setCell ?_ (by simp only [World.size_alloc, World.size_setCell, World.size_drew]; omega) _))) (IsN.kept N3 (by repeat (first | with_reducible exact Kept.refl _ | with_reducible refine Kept.alloc ?_ _ | with_reducible refine Kept.drew ?_ | with_reducible refine Kept.setCell ?_ (by simp only [World.size_alloc, World.size_setCell, World.size_drew]; omega) _))) (by omega) (by omega)).mono ?_)
      rintro e w6 ⟨vN4, rfl, N4_, hb⟩
      have X2' : Box w6 (w.heap.size + 1) #[.int .u64 (limb 0 B), .int .u64 (limb 1 B), .int .u64 (limb 2 B), .int .u64 (limb 3 B)] := Box.call hb (by repeat (first | with_reducible assumption | with_reducible apply Box.set10 | with_reducible apply Box.set20 | with_reducible apply Box.set21 | with_reducible apply Box.set40 | with_reducible apply Box.set41 | with_reducible apply Box.set42 | with_reducible apply Box.set43 | with_reducible apply Box.set50 | with_reducible apply Box.set51 | with_reducible apply Box.set52 | with_reducible apply Box.set53 | with_reducible apply Box.set54 | with_reducible apply Box.set80 | with_reducible apply Box.set81 | with_reducible apply Box.set82 | with_reducible apply Box.set83 | with_reducible apply Box.set84 | with_reducible apply Box.set85 | with_reducible apply Box.set86 | with_reducible apply Box.set87 | with_reducible apply Box.drew | (with_reducible apply Box.newAt; (try simp only [World.size_alloc, World.size_setCell, World.size_drew]); done) | with_reducible apply Box.alloc | (with_reducible apply Box.other; case hne => ((try simp only [World.size_alloc, World.size_setCell, World.size_drew]); omega))))
      have Bv3_5' : Box w6 (v3_5) #[.int .i64 (x), .int .u64 (limb 0 A), .int .u64 (limb 1 A), .int .u64 (limb 2 A), .int .u64 (limb 3 A)] := Box.call hb (by repeat (first | with_reducible assumption | with_reducible apply Box.set10 | with_reducible apply Box.set20 | with_reducible apply Box.set21 | with_reducible apply Box.set40 | with_reducible apply Box.set41 | with_reducible apply Box.set42 | with_reducible apply Box.set43 | with_reducible apply Box.set50 | with_reducible apply Box.set51 | with_reducible apply Box.set52 | with_reducible apply Box.set53 | with_reducible apply Box.set54 | with_reducible apply Box.set80 | with_reducible apply Box.set81 | with_reducible apply Box.set82 | with_reducible apply Box.set83 | with_reducible apply Box.set84 | with_reducible apply Box.set85 | with_reducible apply Box.set86 | with_reducible apply Box.set87 | with_reducible apply Box.drew | (with_reducible apply Box.newAt; (try simp only [World.size_alloc, World.size_setCell, World.size_drew]); done) | with_reducible apply Box.alloc | (with_reducible apply Box.other; case hne => ((try simp only [World.size_alloc, World.size_setCell, World.size_drew]); omega))))
      have Bv3_6' : Box w6 (v3_6) #[.int .i64 (0), .int .u64 (limb 0 B), .int .u64 (limb 1 B), .int .u64 (limb 2 B), .int .u64 (limb 3 B)] := Box.call hb (by repeat (first | with_reducible assumption | with_reducible apply Box.set10 | with_reducible apply Box.set20 | with_reducible apply Box.set21 | with_reducible apply Box.set40 | with_reducible apply Box.set41 | with_reducible apply Box.set42 | with_reducible apply Box.set43 | with_reducible apply Box.set50 | with_reducible apply Box.set51 | with_reducible apply Box.set52 | with_reducible apply Box.set53 | with_reducible apply Box.set54 | with_reducible apply Box.set80 | with_reducible apply Box.set81 | with_reducible apply Box.set82 | with_reducible apply Box.set83 | with_reducible apply Box.set84 | with_reducible apply Box.set85 | with_reducible apply Box.set86 | with_reducible apply Box.set87 | with_reducible apply Box.drew | (with_reducible apply Box.newAt; (try simp only [World.size_alloc, World.size_setCell, World.size_drew]); done) | with_reducible apply Box.alloc | (with_reducible apply Box.other; case hne => ((try simp only [World.size_alloc, World.size_setCell, World.size_drew]); omega))))
      have N2' : IsN w6 vN2 (S) := (IsN.kept N2 (by repeat (first | with_reducible exact Kept.refl _ | with_reducible refine Kept.alloc ?_ _ | with_reducible refine Kept.drew ?_ | with_reducible refine Kept.setCell ?_ (by simp only [World.size_alloc, World.size_setCell, World.size_drew]; omega) _))).call hb
      have N3' : IsN w6 vN3 (B) := (IsN.kept N3 (by repeat (first | with_reducible exact Kept.refl _ | with_reducible refine Kept.alloc ?_ _ | with_reducible refine Kept.drew ?_ | with_reducible refine Kept.setCell ?_ (by simp only [World.size_alloc, World.size_setCell, World.size_drew]; omega) _))).call hb
      have hk' : Kept w.heap.size w w6 := Kept.step (by repeat (first | with_reducible exact hk | with_reducible exact Kept.refl _ | with_reducible refine Kept.alloc ?_ _ | with_reducible refine Kept.drew ?_ | with_reducible refine Kept.setCell ?_ (by simp only [World.size_alloc, World.size_setCell, World.size_drew]; omega) _)) hb
      clear hk hb
      clear X2 X2l1 X2l2 X2l3 X2f X20 X21 X22 X23
      clear Bv3_5 Bv3_5l1 Bv3_5l2 Bv3_5l3 Bv3_5f Bv3_50 Bv3_51 Bv3_52 Bv3_53 Bv3_54
      clear Bv3_6 Bv3_6l1 Bv3_6l2 Bv3_6l3 Bv3_6f Bv3_60 Bv3_61 Bv3_62 Bv3_63 Bv3_64
      have X2 := X2'
      clear X2'
      have Bv3_5 := Bv3_5'
      clear Bv3_5'
      have Bv3_6 := Bv3_6'
      clear Bv3_6'
      clear N2
      have N2 := N2'
      clear N2'
      clear N3
      have N3 := N3'
      clear N3'
      have hk := hk'
      clear hk'
      have hz_w6 := hk.size
      have X2l := X2.lt
      have X2f := X2.free
      have X2l1 : w.heap.size + 1 < w6.heap.size + 1 := by omega
      have X2l2 : w.heap.size + 1 < w6.heap.size + 1 + 1 := by omega
      have X2l3 : w.heap.size + 1 < w6.heap.size + 1 + 1 + 1 := by omega
      have X20 := X2.cell 0 _ rfl
      have X21 := X2.cell 1 _ rfl
      have X22 := X2.cell 2 _ rfl
      have X23 := X2.cell 3 _ rfl
      have Bv3_5l := Bv3_5.lt
      have Bv3_5f := Bv3_5.free
      have Bv3_5l1 : v3_5 < w6.heap.size + 1 := by omega
      have Bv3_5l2 : v3_5 < w6.heap.size + 1 + 1 := by omega
      have Bv3_5l3 : v3_5 < w6.heap.size + 1 + 1 + 1 := by omega
      have Bv3_50 := Bv3_5.cell 0 _ rfl
      have Bv3_51 := Bv3_5.cell 1 _ rfl
      have Bv3_52 := Bv3_5.cell 2 _ rfl
      have Bv3_53 := Bv3_5.cell 3 _ rfl
      have Bv3_54 := Bv3_5.cell 4 _ rfl
      have Bv3_6l := Bv3_6.lt
      have Bv3_6f := Bv3_6.free
      have Bv3_6l1 : v3_6 < w6.heap.size + 1 := by omega
      have Bv3_6l2 : v3_6 < w6.heap.size + 1 + 1 := by omega
      have Bv3_6l3 : v3_6 < w6.heap.size + 1 + 1 + 1 := by omega
      have Bv3_60 := Bv3_6.cell 0 _ rfl
      have Bv3_61 := Bv3_6.cell 1 _ rfl
      have Bv3_62 := Bv3_6.cell 2 _ rfl
      have Bv3_63 := Bv3_6.cell 3 _ rfl
      have Bv3_64 := Bv3_6.cell 4 _ rfl
      have N4 : IsN w6 vN4 (S + B) := N4_
      clear N4_
      clear N3
      go_wp2_with fail
      (with_reducible refine (H1.out _).mono ?_)
      rintro e w7 ⟨rfl, hb⟩
      have X2' : Box w7 (w.heap.size + 1) #[.int .u64 (limb 0 B), .int .u64 (limb 1 B), .int .u64 (limb 2 B), .int .u64 (limb 3 B)] := Box.call hb (by repeat (first | with_reducible assumption | with_reducible apply Box.set10 | with_reducible apply Box.set20 | with_reducible apply Box.set21 | with_reducible apply Box.set40 | with_reducible apply Box.set41 | with_reducible apply Box.set42 | with_reducible apply Box.set43 | with_reducible apply Box.set50 | with_reducible apply Box.set51 | with_reducible apply Box.set52 | with_reducible apply Box.set53 | with_reducible apply Box.set54 | with_reducible apply Box.set80 | with_reducible apply Box.set81 | with_reducible apply Box.set82 | with_reducible apply Box.set83 | with_reducible apply Box.set84 | with_reducible apply Box.set85 | with_reducible apply Box.set86 | with_reducible apply Box.set87 | with_reducible apply Box.drew | (with_reducible apply Box.newAt; (try simp only [World.size_alloc, World.size_setCell, World.size_drew]); done) | with_reducible apply Box.alloc | (with_reducible apply Box.other; case hne => ((try simp only [World.size_alloc, World.size_setCell, World.size_drew]); omega))))
      have Bv3_5' : Box w7 (v3_5) #[.int .i64 (x), .int .u64 (limb 0 A), .int .u64 (limb 1 A), .int .u64 (limb 2 A), .int .u64 (limb 3 A)] := Box.call hb (by repeat (first | with_reducible assumption | with_reducible apply Box.set10 | with_reducible apply Box.set20 | with_reducible apply Box.set21 | with_reducible apply Box.set40 | with_reducible apply Box.set41 | with_reducible apply Box.set42 | with_reducible apply Box.set43 | with_reducible apply Box.set50 | with_reducible apply Box.set51 | with_reducible apply Box.set52 | with_reducible apply Box.set53 | with_reducible apply Box.set54 | with_reducible apply Box.set80 | with_reducible apply Box.set81 | with_reducible apply Box.set82 | with_reducible apply Box.set83 | with_reducible apply Box.set84 | with_reducible apply Box.set85 | with_reducible apply Box.set86 | with_reducible apply Box.set87 | with_reducible apply Box.drew | (with_reducible apply Box.newAt; (try simp only [World.size_alloc, World.size_setCell, World.size_drew]); done) | with_reducible apply Box.alloc | (with_reducible apply Box.other; case hne => ((try simp only [World.size_alloc, World.size_setCell, World.size_drew]); omega))))
      have Bv3_6' : Box w7 (v3_6) #[.int .i64 (0), .int .u64 (limb 0 B), .int .u64 (limb 1 B), .int .u64 (limb 2 B), .int .u64 (limb 3 B)] := Box.call hb (by repeat (first | with_reducible assumption | with_reducible apply Box.set10 | with_reducible apply Box.set20 | with_reducible apply Box.set21 | with_reducible apply Box.set40 | with_reducible apply Box.set41 | with_reducible apply Box.set42 | with_reducible apply Box.set43 | with_reducible apply Box.set50 | with_reducible apply Box.set51 | with_reducible apply Box.set52 | with_reducible apply Box.set53 | with_reducible apply Box.set54 | with_reducible apply Box.set80 | with_reducible apply Box.set81 | with_reducible apply Box.set82 | with_reducible apply Box.set83 | with_reducible apply Box.set84 | with_reducible apply Box.set85 | with_reducible apply Box.set86 | with_reducible apply Box.set87 | with_reducible apply Box.drew | (with_reducible apply Box.newAt; (try simp only [World.size_alloc, World.size_setCell, World.size_drew]); done) | with_reducible apply Box.alloc | (with_reducible apply Box.other; case hne => ((try simp only [World.size_alloc, World.size_setCell, World.size_drew]); omega))))
      have N2' : IsN w7 vN2 (S) := (IsN.kept N2 (by repeat (first | with_reducible exact Kept.refl _ | with_reducible refine Kept.alloc ?_ _ | with_reducible refine Kept.drew ?_ | with_reducible refine Kept.setCell ?_ (by simp only [World.size_alloc, World.size_setCell, World.size_drew]; omega) _))).call hb
      have N4' : IsN w7 vN4 (S + B) := (IsN.kept N4 (by repeat (first | with_reducible exact Kept.refl _ | with_reducible refine Kept.alloc ?_ _ | with_reducible refine Kept.drew ?_ | with_reducible refine Kept.setCell ?_ (by simp only [World.size_alloc, World.size_setCell, World.size_drew]; omega) _))).call hb
      have hk' : Kept w.heap.size w w7 := Kept.step (by repeat (first | with_reducible exact hk | with_reducible exact Kept.refl _ | with_reducible refine Kept.alloc ?_ _ | with_reducible refine Kept.drew ?_ | with_reducible refine Kept.setCell ?_ (by simp only [World.size_alloc, World.size_setCell, World.size_drew]; omega) _)) hb
      clear hk hb
      clear X2 X2l1 X2l2 X2l3 X2f X20 X21 X22 X23
      clear Bv3_5 Bv3_5l1 Bv3_5l2 Bv3_5l3 Bv3_5f Bv3_50 Bv3_51 Bv3_52 Bv3_53 Bv3_54
      clear Bv3_6 Bv3_6l1 Bv3_6l2 Bv3_6l3 Bv3_6f Bv3_60 Bv3_61 Bv3_62 Bv3_63 Bv3_64
      have X2 := X2'
      clear X2'
      have Bv3_5 := Bv3_5'
      clear Bv3_5'
      have Bv3_6 := Bv3_6'
      clear Bv3_6'
      clear N2
      have N2 := N2'
      clear N2'
      clear N4
      have N4 := N4'
      clear N4'
      have hk := hk'
      clear hk'
      have hz_w7 := hk.size
      have X2l := X2.lt
      have X2f := X2.free
      have X2l1 : w.heap.size + 1 < w7.heap.size + 1 := by omega
      have X2l2 : w.heap.size + 1 < w7.heap.size + 1 + 1 := by omega
      have X2l3 : w.heap.size + 1 < w7.heap.size + 1 + 1 + 1 := by omega
      have X20 := X2.cell 0 _ rfl
      have X21 := X2.cell 1 _ rfl
      have X22 := X2.cell 2 _ rfl
      have X23 := X2.cell 3 _ rfl
      have Bv3_5l := Bv3_5.lt
      have Bv3_5f := Bv3_5.free
      have Bv3_5l1 : v3_5 < w7.heap.size + 1 := by omega
      have Bv3_5l2 : v3_5 < w7.heap.size + 1 + 1 := by omega
      have Bv3_5l3 : v3_5 < w7.heap.size + 1 + 1 + 1 := by omega
      have Bv3_50 := Bv3_5.cell 0 _ rfl
      have Bv3_51 := Bv3_5.cell 1 _ rfl
      have Bv3_52 := Bv3_5.cell 2 _ rfl
      have Bv3_53 := Bv3_5.cell 3 _ rfl
      have Bv3_54 := Bv3_5.cell 4 _ rfl
      have Bv3_6l := Bv3_6.lt
      have Bv3_6f := Bv3_6.free
      have Bv3_6l1 : v3_6 < w7.heap.size + 1 := by omega
      have Bv3_6l2 : v3_6 < w7.heap.size + 1 + 1 := by omega
      have Bv3_6l3 : v3_6 < w7.heap.size + 1 + 1 + 1 := by omega
      have Bv3_60 := Bv3_6.cell 0 _ rfl
      have Bv3_61 := Bv3_6.cell 1 _ rfl
      have Bv3_62 := Bv3_6.cell 2 _ rfl
      have Bv3_63 := Bv3_6.cell 3 _ rfl
      have Bv3_64 := Bv3_6.cell 4 _ rfl
      go_upto_region 7 with fail
      refine wp_region_p 16 (fun W' => Kept w.heap.size w W' ∧ w7.heap.size + 1 ≤ W'.heap.size ∧ Box W' (w.heap.size + 1) #[.int .u64 (limb 0 B), .int .u64 (limb 1 B), .int .u64 (limb 2 B), .int .u64 (limb 3 B)] ∧ Box W' (v3_5) #[.int .i64 (x), .int .u64 (limb 0 A), .int .u64 (limb 1 A), .int .u64 (limb 2 A), .int .u64 (limb 3 A)] ∧ Box W' (v3_6) #[.int .i64 (0), .int .u64 (limb 0 B), .int .u64 (limb 1 B), .int .u64 (limb 2 B), .int .u64 (limb 3 B)] ∧ Box W' (w7.heap.size) #[.int .i64 (x + 1), .int .u64 (limb 0 U), .int .u64 (limb 1 U), .int .u64 (limb 2 U), .int .u64 (limb 3 U)] ∧ IsN W' vN2 (S) ∧ IsN W' vN4 (S + B)) (fun W' => Kept w.heap.size w W' ∧ w7.heap.size + 1 ≤ W'.heap.size ∧ Box W' (w.heap.size + 1) #[.int .u64 (limb 0 B), .int .u64 (limb 1 B), .int .u64 (limb 2 B), .int .u64 (limb 3 B)] ∧ Box W' (v3_5) #[.int .i64 (x), .int .u64 (limb 0 A), .int .u64 (limb 1 A), .int .u64 (limb 2 A), .int .u64 (limb 3 A)] ∧ Box W' (v3_6) #[.int .i64 (0), .int .u64 (limb 0 B), .int .u64 (limb 1 B), .int .u64 (limb 2 B), .int .u64 (limb 3 B)] ∧ Box W' (w7.heap.size) #[.int .i64 (x + 1), .int .u64 (limb 0 U), .int .u64 (limb 1 U), .int .u64 (limb 2 U), .int .u64 (limb 3 U)] ∧ IsN W' vN2 (S) ∧ IsN W' vN4 (S + B)) 1000 (w7.heap.size + 1) [.known (.pointer (some ⟨w7.heap.size, 0, none⟩)), .known (.int .i64 (x + 1)), .known (.int .i64 (x)), .known (.int .i64 (x + 1)), .known (.bool false), .known (.bool false), .known (.pointer (some ⟨w7.heap.size, 1, none⟩)), .known (wideV U), .num (U), .num (S + B), .known (.int .i64 (x)), .known (.int .i64 (x + 1)), .num (U), .known (.int .i64 0), .known (.bool false), .known (.bool false)] (by kernel_rfl) (by kernel_rfl) (fun W W' h hb => ⟨h.1.step hb, Nat.le_trans (h.2.1) hb.size, Box.call hb (h.2.2.1), Box.call hb (h.2.2.2.1), Box.call hb (h.2.2.2.2.1), Box.call hb (h.2.2.2.2.2.1), IsN.call (h.2.2.2.2.2.2.1) hb, IsN.call (h.2.2.2.2.2.2.2) hb⟩) (fun W W' h hb => ⟨h.1.step hb, Nat.le_trans (h.2.1) hb.size, Box.call hb (h.2.2.1), Box.call hb (h.2.2.2.1), Box.call hb (h.2.2.2.2.1), Box.call hb (h.2.2.2.2.2.1), IsN.call (h.2.2.2.2.2.2.1) hb, IsN.call (h.2.2.2.2.2.2.2) hb⟩) (no_out (of_decide_eq_true (by kernel_rfl))) (.inl (by kernel_rfl)) (.inl (by kernel_rfl)) (fun _ h => h.2.1) (fun _ h => h.2.1) (⟨(by repeat (first | with_reducible exact hk | with_reducible exact Kept.refl _ | with_reducible refine Kept.alloc ?_ _ | with_reducible refine Kept.drew ?_ | with_reducible refine Kept.setCell ?_ (by simp only [World.size_alloc, World.size_setCell, World.size_drew]; omega) _)), (by (try simp only [World.size_alloc, World.size_setCell, World.size_drew]); omega), (by repeat (first | with_reducible assumption | with_reducible apply Box.set10 | with_reducible apply Box.set20 | with_reducible apply Box.set21 | with_reducible apply Box.set40 | with_reducible apply Box.set41 | with_reducible apply Box.set42 | with_reducible apply Box.set43 | with_reducible apply Box.set50 | with_reducible apply Box.set51 | with_reducible apply Box.set52 | with_reducible apply Box.set53 | with_reducible apply Box.set54 | with_reducible apply Box.set80 | with_reducible apply Box.set81 | with_reducible apply Box.set82 | with_reducible apply Box.set83 | with_reducible apply Box.set84 | with_reducible apply Box.set85 | with_reducible apply Box.set86 | with_reducible apply Box.set87 | with_reducible apply Box.drew | (with_reducible apply Box.newAt; (try simp only [World.size_alloc, World.size_setCell, World.size_drew]); done) | with_reducible apply Box.alloc | (with_reducible apply Box.other; case hne => ((try simp only [World.size_alloc, World.size_setCell, World.size_drew]); omega)))), (by repeat (first | with_reducible assumption | with_reducible apply Box.set10 | with_reducible apply Box.set20 | with_reducible apply Box.set21 | with_reducible apply Box.set40 | with_reducible apply Box.set41 | with_reducible apply Box.set42 | with_reducible apply Box.set43 | with_reducible apply Box.set50 | with_reducible apply Box.set51 | with_reducible apply Box.set52 | with_reducible apply Box.set53 | with_reducible apply Box.set54 | with_reducible apply Box.set80 | with_reducible apply Box.set81 | with_reducible apply Box.set82 | with_reducible apply Box.set83 | with_reducible apply Box.set84 | with_reducible apply Box.set85 | with_reducible apply Box.set86 | with_reducible apply Box.set87 | with_reducible apply Box.drew | (with_reducible apply Box.newAt; (try simp only [World.size_alloc, World.size_setCell, World.size_drew]); done) | with_reducible apply Box.alloc | (with_reducible apply Box.other; case hne => ((try simp only [World.size_alloc, World.size_setCell, World.size_drew]); omega)))), (by repeat (first | with_reducible assumption | with_reducible apply Box.set10 | with_reducible apply Box.set20 | with_reducible apply Box.set21 | with_reducible apply Box.set40 | with_reducible apply Box.set41 | with_reducible apply Box.set42 | with_reducible apply Box.set43 | with_reducible apply Box.set50 | with_reducible apply Box.set51 | with_reducible apply Box.set52 | with_reducible apply Box.set53 | with_reducible apply Box.set54 | with_reducible apply Box.set80 | with_reducible apply Box.set81 | with_reducible apply Box.set82 | with_reducible apply Box.set83 | with_reducible apply Box.set84 | with_reducible apply Box.set85 | with_reducible apply Box.set86 | with_reducible apply Box.set87 | with_reducible apply Box.drew | (with_reducible apply Box.newAt; (try simp only [World.size_alloc, World.size_setCell, World.size_drew]); done) | with_reducible apply Box.alloc | (with_reducible apply Box.other; case hne => ((try simp only [World.size_alloc, World.size_setCell, World.size_drew]); omega)))), (by repeat (first | with_reducible assumption | with_reducible apply Box.set10 | with_reducible apply Box.set20 | with_reducible apply Box.set21 | with_reducible apply Box.set40 | with_reducible apply Box.set41 | with_reducible apply Box.set42 | with_reducible apply Box.set43 | with_reducible apply Box.set50 | with_reducible apply Box.set51 | with_reducible apply Box.set52 | with_reducible apply Box.set53 | with_reducible apply Box.set54 | with_reducible apply Box.set80 | with_reducible apply Box.set81 | with_reducible apply Box.set82 | with_reducible apply Box.set83 | with_reducible apply Box.set84 | with_reducible apply Box.set85 | with_reducible apply Box.set86 | with_reducible apply Box.set87 | with_reducible apply Box.drew | (with_reducible apply Box.newAt; (try simp only [World.size_alloc, World.size_setCell, World.size_drew]); done) | with_reducible apply Box.alloc | (with_reducible apply Box.other; case hne => ((try simp only [World.size_alloc, World.size_setCell, World.size_drew]); omega)))), (IsN.kept N2 (by repeat (first | with_reducible exact Kept.refl _ | with_reducible refine Kept.alloc ?_ _ | with_reducible refine Kept.drew ?_ | with_reducible refine Kept.setCell ?_ (by simp only [World.size_alloc, World.size_setCell, World.size_drew]; omega) _))), (IsN.kept N4 (by repeat (first | with_reducible exact Kept.refl _ | with_reducible refine Kept.alloc ?_ _ | with_reducible refine Kept.drew ?_ | with_reducible refine Kept.setCell ?_ (by simp only [World.size_alloc, World.size_setCell, World.size_drew]; omega) _)))⟩) ?_
      clear hk
      clear X2 X2l1 X2l2 X2l3 X2f X20 X21 X22 X23
      clear Bv3_5 Bv3_5l1 Bv3_5l2 Bv3_5l3 Bv3_5f Bv3_50 Bv3_51 Bv3_52 Bv3_53 Bv3_54
      clear Bv3_6 Bv3_6l1 Bv3_6l2 Bv3_6l3 Bv3_6f Bv3_60 Bv3_61 Bv3_62 Bv3_63 Bv3_64
      clear N2
      clear N4
      intro ρ
      simp only [List.take_succ_cons, List.take_zero, List.drop_succ_cons, List.drop_zero]
      refine ⟨?_, ?_⟩
      · as_aux_lemma =>
        intro y_ hS_ hO_ hD
        clear hS_ hO_ hD
        refine s_gen (V := .pointer (some ⟨w7.heap.size, 0, none⟩)) [.pointer (some ⟨w7.heap.size, 0, none⟩)] (by kernel_rfl) (by kernel_rfl) (by kernel_rfl) ?_
        intro r_ hr_
        have o0_ : r_ (.tmp 12) = .pointer (some ⟨w7.heap.size, 0, none⟩) := op_at hr_ 0 (by kernel_rfl) (by kernel_rfl)
        clear hr_
        go_simp; first | done | with_reducible rfl | omega
      simp only [Act.put, planVG, List.setIfInBounds_toArray, List.set_cons_zero, List.set_cons_succ, List.getElem?_cons_zero, List.getElem?_cons_succ]
      refine ⟨?_, ?_⟩
      · as_aux_lemma =>
        intro y_ hS_ hO_ hD
        have Q := ((hS_ (by rfl)).2.2.2.2.2.1).cell
        have q0 := Q 0 _ rfl
        have q1 := Q 1 _ rfl
        have q2 := Q 2 _ rfl
        have q3 := Q 3 _ rfl
        have q4 := Q 4 _ rfl
        clear Q hS_ hO_ hD
        refine s_gen (V := .int .i64 (x + 1)) [.pointer (some ⟨w7.heap.size, 0, none⟩)] (by kernel_rfl) (by kernel_rfl) (by kernel_rfl) ?_
        intro r_ hr_
        have o0_ : r_ (.tmp 39) = .pointer (some ⟨w7.heap.size, 0, none⟩) := op_at hr_ 0 (by kernel_rfl) (by kernel_rfl)
        clear hr_
        go_simp; first | done | with_reducible rfl
      simp only [Act.put, planVG, List.setIfInBounds_toArray, List.set_cons_zero, List.set_cons_succ, List.getElem?_cons_zero, List.getElem?_cons_succ]
      refine ⟨?_, ?_⟩
      · as_aux_lemma =>
        intro y_ hS_ hO_ hD
        clear hS_ hO_ hD
        refine s_gen (V := .int .i64 (x)) [.int .i64 (x)] (by kernel_rfl) (by kernel_rfl) (by kernel_rfl) ?_
        intro r_ hr_
        have o0_ : r_ (.tmp 7) = .int .i64 (x) := op_at hr_ 0 (by kernel_rfl) (by kernel_rfl)
        clear hr_
        go_simp; first | done | with_reducible rfl | omega
      simp only [Act.put, planVG, List.setIfInBounds_toArray, List.set_cons_zero, List.set_cons_succ, List.getElem?_cons_zero, List.getElem?_cons_succ]
      refine ⟨?_, ?_⟩
      · as_aux_lemma =>
        intro y_ hS_ hO_ hD
        clear hS_ hO_ hD
        refine s_gen (V := .int .i64 (x + 1)) [.int .i64 (x), .int .i64 1] (by kernel_rfl) (by kernel_rfl) (by kernel_rfl) ?_
        intro r_ hr_
        have o0_ : r_ (.tmp 41) = .int .i64 (x) := op_at hr_ 0 (by kernel_rfl) (by kernel_rfl)
        have o1_ : r_ (.const (.int .i64 1)) = .int .i64 1 := op_at hr_ 1 (by kernel_rfl) (by kernel_rfl)
        clear hr_
        go_simp; first | done | with_reducible rfl | omega
      simp only [Act.put, planVG, List.setIfInBounds_toArray, List.set_cons_zero, List.set_cons_succ, List.getElem?_cons_zero, List.getElem?_cons_succ]
      refine ⟨?_, ?_⟩
      · as_aux_lemma =>
        intro y_ hS_ hO_ hD
        clear hS_ hO_ hD
        refine s_gen (V := .bool false) [.int .i64 (x + 1), .int .i64 (x + 1)] (by kernel_rfl) (by kernel_rfl) (by kernel_rfl) ?_
        intro r_ hr_
        have o0_ : r_ (.tmp 40) = .int .i64 (x + 1) := op_at hr_ 0 (by kernel_rfl) (by kernel_rfl)
        have o1_ : r_ (.tmp 42) = .int .i64 (x + 1) := op_at hr_ 1 (by kernel_rfl) (by kernel_rfl)
        clear hr_
        go_simp; first | done | with_reducible rfl | omega
      simp only [Act.put, planVG, List.setIfInBounds_toArray, List.set_cons_zero, List.set_cons_succ, List.getElem?_cons_zero, List.getElem?_cons_succ]
      refine ⟨?_, ?_⟩
      · as_aux_lemma =>
        intro y_ hS_ hO_ hD
        clear hS_ hO_ hD
        refine s_gen (V := .bool false) [.bool false] (by kernel_rfl) (by kernel_rfl) (by kernel_rfl) ?_
        intro r_ hr_
        have o0_ : r_ (.tmp 43) = .bool false := op_at hr_ 0 (by kernel_rfl) (by kernel_rfl)
        clear hr_
        go_simp; first | done | with_reducible rfl | omega
      simp only [Act.put, planVG, List.setIfInBounds_toArray, List.set_cons_zero, List.set_cons_succ, List.getElem?_cons_zero, List.getElem?_cons_succ]
      refine ⟨?_, ?_⟩
      · as_aux_lemma =>
        intro y_ hS_ hO_ hD
        clear hS_ hO_ hD
        refine s_gen (V := .pointer (some ⟨w7.heap.size, 1, none⟩)) [.pointer (some ⟨w7.heap.size, 0, none⟩)] (by kernel_rfl) (by kernel_rfl) (by kernel_rfl) ?_
        intro r_ hr_
        have o0_ : r_ (.tmp 12) = .pointer (some ⟨w7.heap.size, 0, none⟩) := op_at hr_ 0 (by kernel_rfl) (by kernel_rfl)
        clear hr_
        go_simp; first | done | with_reducible rfl | omega
      simp only [Act.put, planVG, List.setIfInBounds_toArray, List.set_cons_zero, List.set_cons_succ, List.getElem?_cons_zero, List.getElem?_cons_succ]
      refine ⟨?_, ?_⟩
      · as_aux_lemma =>
        intro y_ hS_ hO_ hD
        have Q := ((hS_ (by rfl)).2.2.2.2.2.1).cell
        have q0 := Q 0 _ rfl
        have q1 := Q 1 _ rfl
        have q2 := Q 2 _ rfl
        have q3 := Q 3 _ rfl
        have q4 := Q 4 _ rfl
        clear Q hS_ hO_ hD
        refine s_gen (V := wideV U) [.pointer (some ⟨w7.heap.size, 1, none⟩)] (by kernel_rfl) (by kernel_rfl) (by kernel_rfl) ?_
        intro r_ hr_
        have o0_ : r_ (.tmp 45) = .pointer (some ⟨w7.heap.size, 1, none⟩) := op_at hr_ 0 (by kernel_rfl) (by kernel_rfl)
        clear hr_
        go_simp; first | done | with_reducible rfl
      simp only [Act.put, planVG, List.setIfInBounds_toArray, List.set_cons_zero, List.set_cons_succ, List.getElem?_cons_zero, List.getElem?_cons_succ]
      refine ⟨?_, ?_⟩
      · as_aux_lemma =>
        intro y_ hS_ hO_ hD
        try clear hS
        clear hS_ hO_ hD
        refine s_gcallN (A := U) [.func (.func 13) #[] #[], wideV U] ?_ ?_ (by kernel_rfl) (by kernel_rfl) (by kernel_rfl) ?_ ?_
        rotate_left 2
        · intro r_ hr_
          have o0_ : r_ (.func 13) = .func (.func 13) #[] #[] := op_at hr_ 0 (by kernel_rfl) (by kernel_rfl)
          have o1_ : r_ (.tmp 46) = wideV U := op_at hr_ 1 (by kernel_rfl) (by kernel_rfl)
          clear hr_
          go_simp; first | done | with_reducible rfl | (constructor <;> with_reducible rfl)
        · refine refWide_any (IsWide.of hU).w _
      simp only [Act.put, planVG, List.setIfInBounds_toArray, List.set_cons_zero, List.set_cons_succ, List.getElem?_cons_zero, List.getElem?_cons_succ]
      refine ⟨?_, ?_⟩
      · as_aux_lemma =>
        intro y_ hS_ hO_ hD
        have hS := hS_ (by rfl)
        have n_ : IsN y_ (vN4) (S + B) := hS.2.2.2.2.2.2.2
        clear hS hS_ hO_ hD
        exact s_num (by rfl) (by rfl) (by rfl) n_
      simp only [Act.put, planVG, List.setIfInBounds_toArray, List.set_cons_zero, List.set_cons_succ, List.getElem?_cons_zero, List.getElem?_cons_succ]
      refine ⟨?_, ?_⟩
      · as_aux_lemma =>
        intro y_ hS_ hO_ hD
        clear hS_ hO_ hD
        refine s_gen (V := .int .i64 (x)) [.int .i64 (x)] (by kernel_rfl) (by kernel_rfl) (by kernel_rfl) ?_
        intro r_ hr_
        have o0_ : r_ (.tmp 7) = .int .i64 (x) := op_at hr_ 0 (by kernel_rfl) (by kernel_rfl)
        clear hr_
        go_simp; first | done | with_reducible rfl | omega
      simp only [Act.put, planVG, List.setIfInBounds_toArray, List.set_cons_zero, List.set_cons_succ, List.getElem?_cons_zero, List.getElem?_cons_succ]
      refine ⟨?_, ?_⟩
      · as_aux_lemma =>
        intro y_ hS_ hO_ hD
        clear hS_ hO_ hD
        refine s_gen (V := .int .i64 (x + 1)) [.int .i64 (x), .int .i64 1] (by kernel_rfl) (by kernel_rfl) (by kernel_rfl) ?_
        intro r_ hr_
        have o0_ : r_ (.tmp 49) = .int .i64 (x) := op_at hr_ 0 (by kernel_rfl) (by kernel_rfl)
        have o1_ : r_ (.const (.int .i64 1)) = .int .i64 1 := op_at hr_ 1 (by kernel_rfl) (by kernel_rfl)
        clear hr_
        go_simp; first | done | with_reducible rfl | omega
      simp only [Act.put, planVG, List.setIfInBounds_toArray, List.set_cons_zero, List.set_cons_succ, List.getElem?_cons_zero, List.getElem?_cons_succ]
      refine ⟨?_, ?_⟩
      · as_aux_lemma =>
        intro y_ hS_ hO_ hD
        have n_9 : IsN y_ (ρ 9) (S + B) := hD 9 (by decide) (by rfl)
        try clear hS
        clear hS_ hO_ hD
        refine s_gcallN (A := U) [.func (.func 48) #[] #[], ρ 9, .int .i64 (x + 1)] ?_ ?_ (by kernel_rfl) (by kernel_rfl) (by kernel_rfl) ?_ ?_
        rotate_left 2
        · intro r_ hr_
          have o0_ : r_ (.func 48) = .func (.func 48) #[] #[] := op_at hr_ 0 (by kernel_rfl) (by kernel_rfl)
          have o1_ : r_ (.tmp 48) = ρ 9 := op_at hr_ 1 (by kernel_rfl) (by kernel_rfl)
          have o2_ : r_ (.tmp 50) = .int .i64 (x + 1) := op_at hr_ 2 (by kernel_rfl) (by kernel_rfl)
          clear hr_
          go_simp; first | done | with_reducible rfl | (constructor <;> with_reducible rfl)
        · refine refJam_to HU.out (by omega) (by omega) n_9 (by omega)
      simp only [Act.put, planVG, List.setIfInBounds_toArray, List.set_cons_zero, List.set_cons_succ, List.getElem?_cons_zero, List.getElem?_cons_succ]
      refine ⟨?_, ?_⟩
      · as_aux_lemma =>
        intro y_ hS_ hO_ hD
        have n_12 : IsN y_ (ρ 12) (U) := hD 12 (by decide) (by rfl)
        have n_8 : IsN y_ (ρ 8) (U) := hD 8 (by decide) (by rfl)
        try clear hS
        clear hS_ hO_ hD
        refine s_gcall (V := .int .i64 0) [.func (.func 30) #[] #[], ρ 8, ρ 12] ?_ ?_ (by kernel_rfl) (by kernel_rfl) (by kernel_rfl) ?_ ?_
        rotate_left 2
        · intro r_ hr_
          have o0_ : r_ (.func 30) = .func (.func 30) #[] #[] := op_at hr_ 0 (by kernel_rfl) (by kernel_rfl)
          have o1_ : r_ (.tmp 47) = ρ 8 := op_at hr_ 1 (by kernel_rfl) (by kernel_rfl)
          have o2_ : r_ (.tmp 51) = ρ 12 := op_at hr_ 2 (by kernel_rfl) (by kernel_rfl)
          clear hr_
          go_simp; first | done | with_reducible rfl | (constructor <;> with_reducible rfl)
        · refine refCmp_eq (cmp_eq U) _ n_8 n_12 (by omega) (by omega)
      simp only [Act.put, planVG, List.setIfInBounds_toArray, List.set_cons_zero, List.set_cons_succ, List.getElem?_cons_zero, List.getElem?_cons_succ]
      refine ⟨?_, ?_⟩
      · as_aux_lemma =>
        intro y_ hS_ hO_ hD
        clear hS_ hO_ hD
        refine s_gen (V := .bool false) [.int .i64 0, .int .i64 0] (by kernel_rfl) (by kernel_rfl) (by kernel_rfl) ?_
        intro r_ hr_
        have o0_ : r_ (.tmp 52) = .int .i64 0 := op_at hr_ 0 (by kernel_rfl) (by kernel_rfl)
        have o1_ : r_ (.const (.int .i64 0)) = .int .i64 0 := op_at hr_ 1 (by kernel_rfl) (by kernel_rfl)
        clear hr_
        go_simp; first | done | with_reducible rfl | omega
      simp only [Act.put, planVG, List.setIfInBounds_toArray, List.set_cons_zero, List.set_cons_succ, List.getElem?_cons_zero, List.getElem?_cons_succ]
      refine ⟨?_, ?_⟩
      · as_aux_lemma =>
        intro y_ hS_ hO_ hD
        clear hS_ hO_ hD
        refine s_gen (V := .bool false) [.bool false, .bool true, .bool false] (by kernel_rfl) (by kernel_rfl) (by kernel_rfl) ?_
        intro r_ hr_
        have o0_ : r_ (.tmp 44) = .bool false := op_at hr_ 0 (by kernel_rfl) (by kernel_rfl)
        have o1_ : r_ (.const (.bool true)) = .bool true := op_at hr_ 1 (by kernel_rfl) (by kernel_rfl)
        have o2_ : r_ (.tmp 53) = .bool false := op_at hr_ 2 (by kernel_rfl) (by kernel_rfl)
        clear hr_
        go_simp; first | done | with_reducible rfl | omega
      simp only [Act.put, planVG, List.setIfInBounds_toArray, List.set_cons_zero, List.set_cons_succ, List.getElem?_cons_zero, List.getElem?_cons_succ]
      as_aux_lemma =>
        intro w8 hS hF hD_
        change wpList _ _ _ _ _ _
        replace hS := sg_no (by decide) hS
        obtain ⟨hk, hZ8, X2, Bv3_5, Bv3_6, X3, N2, N4⟩ := hS
        have M8 : IsN w8 (ρ 8) (U) := hF 8 (by decide)
        have M9 : IsN w8 (ρ 9) (S + B) := hF 9 (by decide)
        have M12 : IsN w8 (ρ 12) (U) := hF 12 (by decide)
        clear hF hD_
        generalize ρ 8 = u8_8 at *
        generalize ρ 9 = u8_9 at *
        generalize ρ 12 = u8_12 at *
        clear ρ
        have hz_w8 := hk.size
        have X2l := X2.lt
        have X2f := X2.free
        have X2l1 : w.heap.size + 1 < w8.heap.size + 1 := by omega
        have X2l2 : w.heap.size + 1 < w8.heap.size + 1 + 1 := by omega
        have X2l3 : w.heap.size + 1 < w8.heap.size + 1 + 1 + 1 := by omega
        have X20 := X2.cell 0 _ rfl
        have X21 := X2.cell 1 _ rfl
        have X22 := X2.cell 2 _ rfl
        have X23 := X2.cell 3 _ rfl
        have Bv3_5l := Bv3_5.lt
        have Bv3_5f := Bv3_5.free
        have Bv3_5l1 : v3_5 < w8.heap.size + 1 := by omega
        have Bv3_5l2 : v3_5 < w8.heap.size + 1 + 1 := by omega
        have Bv3_5l3 : v3_5 < w8.heap.size + 1 + 1 + 1 := by omega
        have Bv3_50 := Bv3_5.cell 0 _ rfl
        have Bv3_51 := Bv3_5.cell 1 _ rfl
        have Bv3_52 := Bv3_5.cell 2 _ rfl
        have Bv3_53 := Bv3_5.cell 3 _ rfl
        have Bv3_54 := Bv3_5.cell 4 _ rfl
        have Bv3_6l := Bv3_6.lt
        have Bv3_6f := Bv3_6.free
        have Bv3_6l1 : v3_6 < w8.heap.size + 1 := by omega
        have Bv3_6l2 : v3_6 < w8.heap.size + 1 + 1 := by omega
        have Bv3_6l3 : v3_6 < w8.heap.size + 1 + 1 + 1 := by omega
        have Bv3_60 := Bv3_6.cell 0 _ rfl
        have Bv3_61 := Bv3_6.cell 1 _ rfl
        have Bv3_62 := Bv3_6.cell 2 _ rfl
        have Bv3_63 := Bv3_6.cell 3 _ rfl
        have Bv3_64 := Bv3_6.cell 4 _ rfl
        have X3l := X3.lt
        have X3f := X3.free
        have X3l1 : w7.heap.size < w8.heap.size + 1 := by omega
        have X3l2 : w7.heap.size < w8.heap.size + 1 + 1 := by omega
        have X3l3 : w7.heap.size < w8.heap.size + 1 + 1 + 1 := by omega
        have X30 := X3.cell 0 _ rfl
        have X31 := X3.cell 1 _ rfl
        have X32 := X3.cell 2 _ rfl
        have X33 := X3.cell 3 _ rfl
        have X34 := X3.cell 4 _ rfl
        clear M8
        clear M9
        clear M12
        clear N4
        go_wp2_with fail
        (with_reducible refine (H2.out _).mono ?_)
        rintro e w9 ⟨rfl, hb⟩
        have X2' : Box w9 (w.heap.size + 1) #[.int .u64 (limb 0 B), .int .u64 (limb 1 B), .int .u64 (limb 2 B), .int .u64 (limb 3 B)] := Box.call hb (by repeat (first | with_reducible assumption | with_reducible apply Box.set10 | with_reducible apply Box.set20 | with_reducible apply Box.set21 | with_reducible apply Box.set40 | with_reducible apply Box.set41 | with_reducible apply Box.set42 | with_reducible apply Box.set43 | with_reducible apply Box.set50 | with_reducible apply Box.set51 | with_reducible apply Box.set52 | with_reducible apply Box.set53 | with_reducible apply Box.set54 | with_reducible apply Box.set80 | with_reducible apply Box.set81 | with_reducible apply Box.set82 | with_reducible apply Box.set83 | with_reducible apply Box.set84 | with_reducible apply Box.set85 | with_reducible apply Box.set86 | with_reducible apply Box.set87 | with_reducible apply Box.drew | (with_reducible apply Box.newAt; (try simp only [World.size_alloc, World.size_setCell, World.size_drew]); done) | with_reducible apply Box.alloc | (with_reducible apply Box.other; case hne => ((try simp only [World.size_alloc, World.size_setCell, World.size_drew]); omega))))
        have N2' : IsN w9 vN2 (S) := (IsN.kept N2 (by repeat (first | with_reducible exact Kept.refl _ | with_reducible refine Kept.alloc ?_ _ | with_reducible refine Kept.drew ?_ | with_reducible refine Kept.setCell ?_ (by simp only [World.size_alloc, World.size_setCell, World.size_drew]; omega) _))).call hb
        have hk' : Kept w.heap.size w w9 := Kept.step (by repeat (first | with_reducible exact hk | with_reducible exact Kept.refl _ | with_reducible refine Kept.alloc ?_ _ | with_reducible refine Kept.drew ?_ | with_reducible refine Kept.setCell ?_ (by simp only [World.size_alloc, World.size_setCell, World.size_drew]; omega) _)) hb
        clear hk hb
        clear X2 X2l1 X2l2 X2l3 X2f X20 X21 X22 X23
        clear Bv3_5 Bv3_5l1 Bv3_5l2 Bv3_5l3 Bv3_5f Bv3_50 Bv3_51 Bv3_52 Bv3_53 Bv3_54
        clear Bv3_6 Bv3_6l1 Bv3_6l2 Bv3_6l3 Bv3_6f Bv3_60 Bv3_61 Bv3_62 Bv3_63 Bv3_64
        clear X3 X3l1 X3l2 X3l3 X3f X30 X31 X32 X33 X34
        have X2 := X2'
        clear X2'
        clear N2
        have N2 := N2'
        clear N2'
        have hk := hk'
        clear hk'
        have hz_w9 := hk.size
        have X2l := X2.lt
        have X2f := X2.free
        have X2l1 : w.heap.size + 1 < w9.heap.size + 1 := by omega
        have X2l2 : w.heap.size + 1 < w9.heap.size + 1 + 1 := by omega
        have X2l3 : w.heap.size + 1 < w9.heap.size + 1 + 1 + 1 := by omega
        have X20 := X2.cell 0 _ rfl
        have X21 := X2.cell 1 _ rfl
        have X22 := X2.cell 2 _ rfl
        have X23 := X2.cell 3 _ rfl
        go_wp2_with fail
        (with_reducible refine (refWide_any (IsWide.of hB).w _).mono ?_)
        rintro e w10 ⟨vN8, rfl, N8_, hb⟩
        have X4' : Box w10 (w9.heap.size) #[.int .i64 (x), .int .u64 (limb 0 T), .int .u64 (limb 1 T), .int .u64 (limb 2 T), .int .u64 (limb 3 T)] := Box.call hb (by repeat (first | with_reducible assumption | with_reducible apply Box.set10 | with_reducible apply Box.set20 | with_reducible apply Box.set21 | with_reducible apply Box.set40 | with_reducible apply Box.set41 | with_reducible apply Box.set42 | with_reducible apply Box.set43 | with_reducible apply Box.set50 | with_reducible apply Box.set51 | with_reducible apply Box.set52 | with_reducible apply Box.set53 | with_reducible apply Box.set54 | with_reducible apply Box.set80 | with_reducible apply Box.set81 | with_reducible apply Box.set82 | with_reducible apply Box.set83 | with_reducible apply Box.set84 | with_reducible apply Box.set85 | with_reducible apply Box.set86 | with_reducible apply Box.set87 | with_reducible apply Box.drew | (with_reducible apply Box.newAt; (try simp only [World.size_alloc, World.size_setCell, World.size_drew]); done) | with_reducible apply Box.alloc | (with_reducible apply Box.other; case hne => ((try simp only [World.size_alloc, World.size_setCell, World.size_drew]); omega))))
        have N2' : IsN w10 vN2 (S) := (IsN.kept N2 (by repeat (first | with_reducible exact Kept.refl _ | with_reducible refine Kept.alloc ?_ _ | with_reducible refine Kept.drew ?_ | with_reducible refine Kept.setCell ?_ (by simp only [World.size_alloc, World.size_setCell, World.size_drew]; omega) _))).call hb
        have hk' : Kept w.heap.size w w10 := Kept.step (by repeat (first | with_reducible exact hk | with_reducible exact Kept.refl _ | with_reducible refine Kept.alloc ?_ _ | with_reducible refine Kept.drew ?_ | with_reducible refine Kept.setCell ?_ (by simp only [World.size_alloc, World.size_setCell, World.size_drew]; omega) _)) hb
        clear hk hb
        clear X2 X2l1 X2l2 X2l3 X2f X20 X21 X22 X23
        have X4 := X4'
        clear X4'
        clear N2
        have N2 := N2'
        clear N2'
        have hk := hk'
        clear hk'
        have hz_w10 := hk.size
        have X4l := X4.lt
        have X4f := X4.free
        have X4l1 : w9.heap.size < w10.heap.size + 1 := by omega
        have X4l2 : w9.heap.size < w10.heap.size + 1 + 1 := by omega
        have X4l3 : w9.heap.size < w10.heap.size + 1 + 1 + 1 := by omega
        have X40 := X4.cell 0 _ rfl
        have X41 := X4.cell 1 _ rfl
        have X42 := X4.cell 2 _ rfl
        have X43 := X4.cell 3 _ rfl
        have X44 := X4.cell 4 _ rfl
        have N8 : IsN w10 vN8 (B) := N8_
        clear N8_
        go_wp2_with fail
        (with_reducible refine (refCmp_any _ (IsN.kept N2 (by repeat (first | with_reducible exact Kept.refl _ | with_reducible refine Kept.alloc ?_ _ | with_reducible refine Kept.drew ?_ | with_reducible refine Kept.setCell ?_ (by simp only [World.size_alloc, World.size_setCell, World.size_drew]; omega) _))) (IsN.kept N8 (by repeat (first | with_reducible exact Kept.refl _ | with_reducible refine Kept.alloc ?_ _ | with_reducible refine Kept.drew ?_ | with_reducible refine Kept.setCell ?_ (by simp only [World.size_alloc, World.size_setCell, World.size_drew]; omega) _))) (by omega) (by omega)).mono ?_)
        rintro e w11 ⟨rfl, hb⟩
        have X4' : Box w11 (w9.heap.size) #[.int .i64 (x), .int .u64 (limb 0 T), .int .u64 (limb 1 T), .int .u64 (limb 2 T), .int .u64 (limb 3 T)] := Box.call hb (by repeat (first | with_reducible assumption | with_reducible apply Box.set10 | with_reducible apply Box.set20 | with_reducible apply Box.set21 | with_reducible apply Box.set40 | with_reducible apply Box.set41 | with_reducible apply Box.set42 | with_reducible apply Box.set43 | with_reducible apply Box.set50 | with_reducible apply Box.set51 | with_reducible apply Box.set52 | with_reducible apply Box.set53 | with_reducible apply Box.set54 | with_reducible apply Box.set80 | with_reducible apply Box.set81 | with_reducible apply Box.set82 | with_reducible apply Box.set83 | with_reducible apply Box.set84 | with_reducible apply Box.set85 | with_reducible apply Box.set86 | with_reducible apply Box.set87 | with_reducible apply Box.drew | (with_reducible apply Box.newAt; (try simp only [World.size_alloc, World.size_setCell, World.size_drew]); done) | with_reducible apply Box.alloc | (with_reducible apply Box.other; case hne => ((try simp only [World.size_alloc, World.size_setCell, World.size_drew]); omega))))
        have N2' : IsN w11 vN2 (S) := (IsN.kept N2 (by repeat (first | with_reducible exact Kept.refl _ | with_reducible refine Kept.alloc ?_ _ | with_reducible refine Kept.drew ?_ | with_reducible refine Kept.setCell ?_ (by simp only [World.size_alloc, World.size_setCell, World.size_drew]; omega) _))).call hb
        have N8' : IsN w11 vN8 (B) := (IsN.kept N8 (by repeat (first | with_reducible exact Kept.refl _ | with_reducible refine Kept.alloc ?_ _ | with_reducible refine Kept.drew ?_ | with_reducible refine Kept.setCell ?_ (by simp only [World.size_alloc, World.size_setCell, World.size_drew]; omega) _))).call hb
        have hk' : Kept w.heap.size w w11 := Kept.step (by repeat (first | with_reducible exact hk | with_reducible exact Kept.refl _ | with_reducible refine Kept.alloc ?_ _ | with_reducible refine Kept.drew ?_ | with_reducible refine Kept.setCell ?_ (by simp only [World.size_alloc, World.size_setCell, World.size_drew]; omega) _)) hb
        clear hk hb
        clear X4 X4l1 X4l2 X4l3 X4f X40 X41 X42 X43 X44
        have X4 := X4'
        clear X4'
        clear N2
        have N2 := N2'
        clear N2'
        clear N8
        have N8 := N8'
        clear N8'
        have hk := hk'
        clear hk'
        have hz_w11 := hk.size
        have X4l := X4.lt
        have X4f := X4.free
        have X4l1 : w9.heap.size < w11.heap.size + 1 := by omega
        have X4l2 : w9.heap.size < w11.heap.size + 1 + 1 := by omega
        have X4l3 : w9.heap.size < w11.heap.size + 1 + 1 + 1 := by omega
        have X40 := X4.cell 0 _ rfl
        have X41 := X4.cell 1 _ rfl
        have X42 := X4.cell 2 _ rfl
        have X43 := X4.cell 3 _ rfl
        have X44 := X4.cell 4 _ rfl
        go_upto_region 17 with fail
        refine wp_region_p 20 (fun W' => Kept w.heap.size w W' ∧ w11.heap.size ≤ W'.heap.size ∧ Box W' (w9.heap.size) #[.int .i64 (x), .int .u64 (limb 0 T), .int .u64 (limb 1 T), .int .u64 (limb 2 T), .int .u64 (limb 3 T)] ∧ IsN W' vN2 (S) ∧ IsN W' vN8 (B)) (fun W' => Kept w.heap.size w W' ∧ w11.heap.size ≤ W'.heap.size ∧ Box W' (w9.heap.size) #[.int .i64 (x), .int .u64 (limb 0 T), .int .u64 (limb 1 T), .int .u64 (limb 2 T), .int .u64 (limb 3 T)] ∧ IsN W' vN2 (S) ∧ IsN W' vN8 (B)) 1000 (w11.heap.size) [.known (.pointer (some ⟨w9.heap.size, 0, none⟩)), .known (.int .i64 (x)), .known (.int .i64 (x)), .known (.bool true), .known (.bool true), .known (.pointer (some ⟨w9.heap.size, 1, none⟩)), .known (wideV T), .num (T), .num (B), .num (S), .num (B - S), .known (.int .i64 (x)), .num (T), .known (.int .i64 0), .known (.bool true), .known (.bool true), .known (.bool true), .known (.bool true), .known (.bool true), .known (.bool true)] (by kernel_rfl) (by kernel_rfl) (fun W W' h hb => ⟨h.1.step hb, Nat.le_trans (h.2.1) hb.size, Box.call hb (h.2.2.1), IsN.call (h.2.2.2.1) hb, IsN.call (h.2.2.2.2) hb⟩) (fun W W' h hb => ⟨h.1.step hb, Nat.le_trans (h.2.1) hb.size, Box.call hb (h.2.2.1), IsN.call (h.2.2.2.1) hb, IsN.call (h.2.2.2.2) hb⟩) (no_out (of_decide_eq_true (by kernel_rfl))) (.inl (by kernel_rfl)) (.inl (by kernel_rfl)) (fun _ h => h.2.1) (fun _ h => h.2.1) (⟨(by repeat (first | with_reducible exact hk | with_reducible exact Kept.refl _ | with_reducible refine Kept.alloc ?_ _ | with_reducible refine Kept.drew ?_ | with_reducible refine Kept.setCell ?_ (by simp only [World.size_alloc, World.size_setCell, World.size_drew]; omega) _)), (by (try simp only [World.size_alloc, World.size_setCell, World.size_drew]); omega), (by repeat (first | with_reducible assumption | with_reducible apply Box.set10 | with_reducible apply Box.set20 | with_reducible apply Box.set21 | with_reducible apply Box.set40 | with_reducible apply Box.set41 | with_reducible apply Box.set42 | with_reducible apply Box.set43 | with_reducible apply Box.set50 | with_reducible apply Box.set51 | with_reducible apply Box.set52 | with_reducible apply Box.set53 | with_reducible apply Box.set54 | with_reducible apply Box.set80 | with_reducible apply Box.set81 | with_reducible apply Box.set82 | with_reducible apply Box.set83 | with_reducible apply Box.set84 | with_reducible apply Box.set85 | with_reducible apply Box.set86 | with_reducible apply Box.set87 | with_reducible apply Box.drew | (with_reducible apply Box.newAt; (try simp only [World.size_alloc, World.size_setCell, World.size_drew]); done) | with_reducible apply Box.alloc | (with_reducible apply Box.other; case hne => ((try simp only [World.size_alloc, World.size_setCell, World.size_drew]); omega)))), (IsN.kept N2 (by repeat (first | with_reducible exact Kept.refl _ | with_reducible refine Kept.alloc ?_ _ | with_reducible refine Kept.drew ?_ | with_reducible refine Kept.setCell ?_ (by simp only [World.size_alloc, World.size_setCell, World.size_drew]; omega) _))), (IsN.kept N8 (by repeat (first | with_reducible exact Kept.refl _ | with_reducible refine Kept.alloc ?_ _ | with_reducible refine Kept.drew ?_ | with_reducible refine Kept.setCell ?_ (by simp only [World.size_alloc, World.size_setCell, World.size_drew]; omega) _)))⟩) ?_
        clear hk
        clear X4 X4l1 X4l2 X4l3 X4f X40 X41 X42 X43 X44
        clear N2
        clear N8
        intro ρ
        simp only [List.take_succ_cons, List.take_zero, List.drop_succ_cons, List.drop_zero]
        refine ⟨?_, ?_⟩
        · as_aux_lemma =>
          intro y_ hS_ hO_ hD
          clear hS_ hO_ hD
          refine s_gen (V := .pointer (some ⟨w9.heap.size, 0, none⟩)) [.pointer (some ⟨w9.heap.size, 0, none⟩)] (by kernel_rfl) (by kernel_rfl) (by kernel_rfl) ?_
          intro r_ hr_
          have o0_ : r_ (.tmp 13) = .pointer (some ⟨w9.heap.size, 0, none⟩) := op_at hr_ 0 (by kernel_rfl) (by kernel_rfl)
          clear hr_
          go_simp; first | done | with_reducible rfl | omega
        simp only [Act.put, planVG, List.setIfInBounds_toArray, List.set_cons_zero, List.set_cons_succ, List.getElem?_cons_zero, List.getElem?_cons_succ]
        refine ⟨?_, ?_⟩
        · as_aux_lemma =>
          intro y_ hS_ hO_ hD
          have Q := ((hS_ (by rfl)).2.2.1).cell
          have q0 := Q 0 _ rfl
          have q1 := Q 1 _ rfl
          have q2 := Q 2 _ rfl
          have q3 := Q 3 _ rfl
          have q4 := Q 4 _ rfl
          clear Q hS_ hO_ hD
          refine s_gen (V := .int .i64 (x)) [.pointer (some ⟨w9.heap.size, 0, none⟩)] (by kernel_rfl) (by kernel_rfl) (by kernel_rfl) ?_
          intro r_ hr_
          have o0_ : r_ (.tmp 72) = .pointer (some ⟨w9.heap.size, 0, none⟩) := op_at hr_ 0 (by kernel_rfl) (by kernel_rfl)
          clear hr_
          go_simp; first | done | with_reducible rfl
        simp only [Act.put, planVG, List.setIfInBounds_toArray, List.set_cons_zero, List.set_cons_succ, List.getElem?_cons_zero, List.getElem?_cons_succ]
        refine ⟨?_, ?_⟩
        · as_aux_lemma =>
          intro y_ hS_ hO_ hD
          clear hS_ hO_ hD
          refine s_gen (V := .int .i64 (x)) [.int .i64 (x)] (by kernel_rfl) (by kernel_rfl) (by kernel_rfl) ?_
          intro r_ hr_
          have o0_ : r_ (.tmp 7) = .int .i64 (x) := op_at hr_ 0 (by kernel_rfl) (by kernel_rfl)
          clear hr_
          go_simp; first | done | with_reducible rfl | omega
        simp only [Act.put, planVG, List.setIfInBounds_toArray, List.set_cons_zero, List.set_cons_succ, List.getElem?_cons_zero, List.getElem?_cons_succ]
        refine ⟨?_, ?_⟩
        · as_aux_lemma =>
          intro y_ hS_ hO_ hD
          clear hS_ hO_ hD
          refine s_gen (V := .bool true) [.int .i64 (x), .int .i64 (x)] (by kernel_rfl) (by kernel_rfl) (by kernel_rfl) ?_
          intro r_ hr_
          have o0_ : r_ (.tmp 73) = .int .i64 (x) := op_at hr_ 0 (by kernel_rfl) (by kernel_rfl)
          have o1_ : r_ (.tmp 74) = .int .i64 (x) := op_at hr_ 1 (by kernel_rfl) (by kernel_rfl)
          clear hr_
          go_simp; first | done | with_reducible rfl | omega
        simp only [Act.put, planVG, List.setIfInBounds_toArray, List.set_cons_zero, List.set_cons_succ, List.getElem?_cons_zero, List.getElem?_cons_succ]
        refine ⟨?_, ?_⟩
        · as_aux_lemma =>
          intro y_ hS_ hO_ hD
          clear hS_ hO_ hD
          refine s_gen (V := .bool true) [.bool true] (by kernel_rfl) (by kernel_rfl) (by kernel_rfl) ?_
          intro r_ hr_
          have o0_ : r_ (.tmp 75) = .bool true := op_at hr_ 0 (by kernel_rfl) (by kernel_rfl)
          clear hr_
          go_simp; first | done | with_reducible rfl | omega
        simp only [Act.put, planVG, List.setIfInBounds_toArray, List.set_cons_zero, List.set_cons_succ, List.getElem?_cons_zero, List.getElem?_cons_succ]
        refine ⟨?_, ?_⟩
        · as_aux_lemma =>
          intro y_ hS_ hO_ hD
          clear hS_ hO_ hD
          refine s_gen (V := .pointer (some ⟨w9.heap.size, 1, none⟩)) [.pointer (some ⟨w9.heap.size, 0, none⟩)] (by kernel_rfl) (by kernel_rfl) (by kernel_rfl) ?_
          intro r_ hr_
          have o0_ : r_ (.tmp 13) = .pointer (some ⟨w9.heap.size, 0, none⟩) := op_at hr_ 0 (by kernel_rfl) (by kernel_rfl)
          clear hr_
          go_simp; first | done | with_reducible rfl | omega
        simp only [Act.put, planVG, List.setIfInBounds_toArray, List.set_cons_zero, List.set_cons_succ, List.getElem?_cons_zero, List.getElem?_cons_succ]
        refine ⟨?_, ?_⟩
        · as_aux_lemma =>
          intro y_ hS_ hO_ hD
          have Q := ((hS_ (by rfl)).2.2.1).cell
          have q0 := Q 0 _ rfl
          have q1 := Q 1 _ rfl
          have q2 := Q 2 _ rfl
          have q3 := Q 3 _ rfl
          have q4 := Q 4 _ rfl
          clear Q hS_ hO_ hD
          refine s_gen (V := wideV T) [.pointer (some ⟨w9.heap.size, 1, none⟩)] (by kernel_rfl) (by kernel_rfl) (by kernel_rfl) ?_
          intro r_ hr_
          have o0_ : r_ (.tmp 77) = .pointer (some ⟨w9.heap.size, 1, none⟩) := op_at hr_ 0 (by kernel_rfl) (by kernel_rfl)
          clear hr_
          go_simp; first | done | with_reducible rfl
        simp only [Act.put, planVG, List.setIfInBounds_toArray, List.set_cons_zero, List.set_cons_succ, List.getElem?_cons_zero, List.getElem?_cons_succ]
        refine ⟨?_, ?_⟩
        · as_aux_lemma =>
          intro y_ hS_ hO_ hD
          try clear hS
          clear hS_ hO_ hD
          refine s_gcallN (A := T) [.func (.func 13) #[] #[], wideV T] ?_ ?_ (by kernel_rfl) (by kernel_rfl) (by kernel_rfl) ?_ ?_
          rotate_left 2
          · intro r_ hr_
            have o0_ : r_ (.func 13) = .func (.func 13) #[] #[] := op_at hr_ 0 (by kernel_rfl) (by kernel_rfl)
            have o1_ : r_ (.tmp 78) = wideV T := op_at hr_ 1 (by kernel_rfl) (by kernel_rfl)
            clear hr_
            go_simp; first | done | with_reducible rfl | (constructor <;> with_reducible rfl)
          · refine refWide_any (IsWide.of hT).w _
        simp only [Act.put, planVG, List.setIfInBounds_toArray, List.set_cons_zero, List.set_cons_succ, List.getElem?_cons_zero, List.getElem?_cons_succ]
        refine ⟨?_, ?_⟩
        · as_aux_lemma =>
          intro y_ hS_ hO_ hD
          have hS := hS_ (by rfl)
          have n_ : IsN y_ (vN8) (B) := hS.2.2.2.2
          clear hS hS_ hO_ hD
          exact s_num (by rfl) (by rfl) (by rfl) n_
        simp only [Act.put, planVG, List.setIfInBounds_toArray, List.set_cons_zero, List.set_cons_succ, List.getElem?_cons_zero, List.getElem?_cons_succ]
        refine ⟨?_, ?_⟩
        · as_aux_lemma =>
          intro y_ hS_ hO_ hD
          have hS := hS_ (by rfl)
          have n_ : IsN y_ (vN2) (S) := hS.2.2.2.1
          clear hS hS_ hO_ hD
          exact s_num (by rfl) (by rfl) (by rfl) n_
        simp only [Act.put, planVG, List.setIfInBounds_toArray, List.set_cons_zero, List.set_cons_succ, List.getElem?_cons_zero, List.getElem?_cons_succ]
        refine ⟨?_, ?_⟩
        · as_aux_lemma =>
          intro y_ hS_ hO_ hD
          have n_8 : IsN y_ (ρ 8) (B) := hD 8 (by decide) (by rfl)
          have n_9 : IsN y_ (ρ 9) (S) := hD 9 (by decide) (by rfl)
          try clear hS
          clear hS_ hO_ hD
          refine s_gcallN (A := B - S) [.func (.func 31) #[] #[], ρ 8, ρ 9] ?_ ?_ (by kernel_rfl) (by kernel_rfl) (by kernel_rfl) ?_ ?_
          rotate_left 2
          · intro r_ hr_
            have o0_ : r_ (.func 31) = .func (.func 31) #[] #[] := op_at hr_ 0 (by kernel_rfl) (by kernel_rfl)
            have o1_ : r_ (.tmp 80) = ρ 8 := op_at hr_ 1 (by kernel_rfl) (by kernel_rfl)
            have o2_ : r_ (.tmp 81) = ρ 9 := op_at hr_ 2 (by kernel_rfl) (by kernel_rfl)
            clear hr_
            go_simp; first | done | with_reducible rfl | (constructor <;> with_reducible rfl)
          · refine refSub_any _ n_8 n_9 (by omega) (by omega) HLE.out
        simp only [Act.put, planVG, List.setIfInBounds_toArray, List.set_cons_zero, List.set_cons_succ, List.getElem?_cons_zero, List.getElem?_cons_succ]
        refine ⟨?_, ?_⟩
        · as_aux_lemma =>
          intro y_ hS_ hO_ hD
          clear hS_ hO_ hD
          refine s_gen (V := .int .i64 (x)) [.int .i64 (x)] (by kernel_rfl) (by kernel_rfl) (by kernel_rfl) ?_
          intro r_ hr_
          have o0_ : r_ (.tmp 7) = .int .i64 (x) := op_at hr_ 0 (by kernel_rfl) (by kernel_rfl)
          clear hr_
          go_simp; first | done | with_reducible rfl | omega
        simp only [Act.put, planVG, List.setIfInBounds_toArray, List.set_cons_zero, List.set_cons_succ, List.getElem?_cons_zero, List.getElem?_cons_succ]
        refine ⟨?_, ?_⟩
        · as_aux_lemma =>
          intro y_ hS_ hO_ hD
          have n_10 : IsN y_ (ρ 10) (B - S) := hD 10 (by decide) (by rfl)
          try clear hS
          clear hS_ hO_ hD
          refine s_gcallN (A := T) [.func (.func 48) #[] #[], ρ 10, .int .i64 (x)] ?_ ?_ (by kernel_rfl) (by kernel_rfl) (by kernel_rfl) ?_ ?_
          rotate_left 2
          · intro r_ hr_
            have o0_ : r_ (.func 48) = .func (.func 48) #[] #[] := op_at hr_ 0 (by kernel_rfl) (by kernel_rfl)
            have o1_ : r_ (.tmp 82) = ρ 10 := op_at hr_ 1 (by kernel_rfl) (by kernel_rfl)
            have o2_ : r_ (.tmp 83) = .int .i64 (x) := op_at hr_ 2 (by kernel_rfl) (by kernel_rfl)
            clear hr_
            go_simp; first | done | with_reducible rfl | (constructor <;> with_reducible rfl)
          · refine refJam_to HT.out (by omega) (by omega) n_10 (by omega)
        simp only [Act.put, planVG, List.setIfInBounds_toArray, List.set_cons_zero, List.set_cons_succ, List.getElem?_cons_zero, List.getElem?_cons_succ]
        refine ⟨?_, ?_⟩
        · as_aux_lemma =>
          intro y_ hS_ hO_ hD
          have n_12 : IsN y_ (ρ 12) (T) := hD 12 (by decide) (by rfl)
          have n_7 : IsN y_ (ρ 7) (T) := hD 7 (by decide) (by rfl)
          try clear hS
          clear hS_ hO_ hD
          refine s_gcall (V := .int .i64 0) [.func (.func 30) #[] #[], ρ 7, ρ 12] ?_ ?_ (by kernel_rfl) (by kernel_rfl) (by kernel_rfl) ?_ ?_
          rotate_left 2
          · intro r_ hr_
            have o0_ : r_ (.func 30) = .func (.func 30) #[] #[] := op_at hr_ 0 (by kernel_rfl) (by kernel_rfl)
            have o1_ : r_ (.tmp 79) = ρ 7 := op_at hr_ 1 (by kernel_rfl) (by kernel_rfl)
            have o2_ : r_ (.tmp 84) = ρ 12 := op_at hr_ 2 (by kernel_rfl) (by kernel_rfl)
            clear hr_
            go_simp; first | done | with_reducible rfl | (constructor <;> with_reducible rfl)
          · refine refCmp_eq (cmp_eq T) _ n_7 n_12 (by omega) (by omega)
        simp only [Act.put, planVG, List.setIfInBounds_toArray, List.set_cons_zero, List.set_cons_succ, List.getElem?_cons_zero, List.getElem?_cons_succ]
        refine ⟨?_, ?_⟩
        · as_aux_lemma =>
          intro y_ hS_ hO_ hD
          clear hS_ hO_ hD
          refine s_gen (V := .bool true) [.int .i64 0, .int .i64 0] (by kernel_rfl) (by kernel_rfl) (by kernel_rfl) ?_
          intro r_ hr_
          have o0_ : r_ (.tmp 85) = .int .i64 0 := op_at hr_ 0 (by kernel_rfl) (by kernel_rfl)
          have o1_ : r_ (.const (.int .i64 0)) = .int .i64 0 := op_at hr_ 1 (by kernel_rfl) (by kernel_rfl)
          clear hr_
          go_simp; first | done | with_reducible rfl | omega
        simp only [Act.put, planVG, List.setIfInBounds_toArray, List.set_cons_zero, List.set_cons_succ, List.getElem?_cons_zero, List.getElem?_cons_succ]
        refine ⟨?_, ?_⟩
        · as_aux_lemma =>
          intro y_ hS_ hO_ hD
          clear hS_ hO_ hD
          refine s_gen (V := .bool true) [.bool true, .bool true, .bool false] (by kernel_rfl) (by kernel_rfl) (by kernel_rfl) ?_
          intro r_ hr_
          have o0_ : r_ (.tmp 76) = .bool true := op_at hr_ 0 (by kernel_rfl) (by kernel_rfl)
          have o1_ : r_ (.tmp 86) = .bool true := op_at hr_ 1 (by kernel_rfl) (by kernel_rfl)
          have o2_ : r_ (.const (.bool false)) = .bool false := op_at hr_ 2 (by kernel_rfl) (by kernel_rfl)
          clear hr_
          go_simp; first | done | with_reducible rfl | omega
        simp only [Act.put, planVG, List.setIfInBounds_toArray, List.set_cons_zero, List.set_cons_succ, List.getElem?_cons_zero, List.getElem?_cons_succ]
        refine ⟨?_, ?_⟩
        · as_aux_lemma =>
          intro y_ hS_ hO_ hD
          clear hS_ hO_ hD
          refine s_gen (V := .bool true) [.bool true] (by kernel_rfl) (by kernel_rfl) (by kernel_rfl) ?_
          intro r_ hr_
          have o0_ : r_ (.tmp 87) = .bool true := op_at hr_ 0 (by kernel_rfl) (by kernel_rfl)
          clear hr_
          go_simp; first | done | with_reducible rfl | omega
        simp only [Act.put, planVG, List.setIfInBounds_toArray, List.set_cons_zero, List.set_cons_succ, List.getElem?_cons_zero, List.getElem?_cons_succ]
        refine ⟨?_, ?_⟩
        · as_aux_lemma =>
          intro y_ hS_ hO_ hD
          try clear hS
          clear hS_ hO_ hD
          refine s_gcall (V := .bool true) [.func (.func 50) #[] #[]] ?_ ?_ (by kernel_rfl) (by kernel_rfl) (by kernel_rfl) ?_ ?_
          rotate_left 2
          · intro r_ hr_
            have o0_ : r_ (.func 50) = .func (.func 50) #[] #[] := op_at hr_ 0 (by kernel_rfl) (by kernel_rfl)
            clear hr_
            go_simp; first | done | with_reducible rfl | (constructor <;> with_reducible rfl)
          · refine goes17_any _
        simp only [Act.put, planVG, List.setIfInBounds_toArray, List.set_cons_zero, List.set_cons_succ, List.getElem?_cons_zero, List.getElem?_cons_succ]
        refine ⟨?_, ?_⟩
        · as_aux_lemma =>
          intro y_ hS_ hO_ hD
          clear hS_ hO_ hD
          refine s_gen (V := .bool true) [.bool true, .bool true, .bool false] (by kernel_rfl) (by kernel_rfl) (by kernel_rfl) ?_
          intro r_ hr_
          have o0_ : r_ (.tmp 88) = .bool true := op_at hr_ 0 (by kernel_rfl) (by kernel_rfl)
          have o1_ : r_ (.tmp 89) = .bool true := op_at hr_ 1 (by kernel_rfl) (by kernel_rfl)
          have o2_ : r_ (.const (.bool false)) = .bool false := op_at hr_ 2 (by kernel_rfl) (by kernel_rfl)
          clear hr_
          go_simp; first | done | with_reducible rfl | omega
        simp only [Act.put, planVG, List.setIfInBounds_toArray, List.set_cons_zero, List.set_cons_succ, List.getElem?_cons_zero, List.getElem?_cons_succ]
        refine ⟨?_, ?_⟩
        · as_aux_lemma =>
          intro y_ hS_ hO_ hD
          clear hS_ hO_ hD
          refine s_gen (V := .bool true) [.bool true] (by kernel_rfl) (by kernel_rfl) (by kernel_rfl) ?_
          intro r_ hr_
          have o0_ : r_ (.tmp 90) = .bool true := op_at hr_ 0 (by kernel_rfl) (by kernel_rfl)
          clear hr_
          go_simp; first | done | with_reducible rfl | omega
        simp only [Act.put, planVG, List.setIfInBounds_toArray, List.set_cons_zero, List.set_cons_succ, List.getElem?_cons_zero, List.getElem?_cons_succ]
        as_aux_lemma =>
          intro w12 hS hF hD_
          change wpList _ _ _ _ _ _
          replace hS := sg_no (by decide) hS
          obtain ⟨hk, hZ12, X4, N2, N8⟩ := hS
          have M7 : IsN w12 (ρ 7) (T) := hF 7 (by decide)
          have M8 : IsN w12 (ρ 8) (B) := hF 8 (by decide)
          have M9 : IsN w12 (ρ 9) (S) := hF 9 (by decide)
          have M10 : IsN w12 (ρ 10) (B - S) := hF 10 (by decide)
          have M12 : IsN w12 (ρ 12) (T) := hF 12 (by decide)
          clear hF hD_
          generalize ρ 7 = u12_7 at *
          generalize ρ 8 = u12_8 at *
          generalize ρ 9 = u12_9 at *
          generalize ρ 10 = u12_10 at *
          generalize ρ 12 = u12_12 at *
          clear ρ
          have hz_w12 := hk.size
          have X4l := X4.lt
          have X4f := X4.free
          have X4l1 : w9.heap.size < w12.heap.size + 1 := by omega
          have X4l2 : w9.heap.size < w12.heap.size + 1 + 1 := by omega
          have X4l3 : w9.heap.size < w12.heap.size + 1 + 1 + 1 := by omega
          have X40 := X4.cell 0 _ rfl
          have X41 := X4.cell 1 _ rfl
          have X42 := X4.cell 2 _ rfl
          have X43 := X4.cell 3 _ rfl
          have X44 := X4.cell 4 _ rfl
          clear M7
          clear M8
          clear M9
          clear M10
          clear M12
          go_wp2
          go_ret
          exact ⟨rfl, (by refine Kept.below ?_; repeat (first | with_reducible exact hk | with_reducible exact Kept.refl _ | with_reducible refine Kept.alloc ?_ _ | with_reducible refine Kept.drew ?_ | with_reducible refine Kept.setCell ?_ (by simp only [World.size_alloc, World.size_setCell, World.size_drew]; omega) _))⟩

theorem MagExact_walk {A0 B0 : Nat} {ap : Int} (hA0 : W256 A0) (hB0 : W256 B0) (p0 : 0 ≤ ap) (p1 : ap ≤ 65535) (w : World) :
    Calls Try.prog 7 #[wideV A0, wideV B0, .int .u16 ap] w fun e w' => e = .returned (.bool true) ∧ Below w.heap.size w w' := by
  obtain ⟨k, pk⟩ : ∃ k : Nat, ap % 300 = (k : Int) := ⟨(ap % 300).toNat, by omega⟩
  have k3 : k < 300 := by omega
  obtain ⟨⟨hA, _⟩, a4, at_⟩ := room_parts A0
  obtain ⟨⟨hB, _⟩, b4, bt⟩ := room_parts B0
  obtain ⟨A, eA⟩ : ∃ A, roomN A0 = A := ⟨_, rfl⟩
  obtain ⟨B, eB⟩ : ∃ B, roomN B0 = B := ⟨_, rfl⟩
  rw [eA] at hA a4 at_
  rw [eB] at hB b4 bt
  have hA2 := hA.lt
  have hB2 := hB.lt
  have ek : expI (k : Int) = k := expI_id (by omega) (by omega)
  have e0 : expI 0 = 0 := expI_id (by omega) (by omega)
  have hlv : levelI (k : Int) A 0 B = k := by
    unfold levelI
    rw [if_neg (by omega), if_neg (by omega)]; unfold maxI; rw [if_neg (by omega)]
  have s1 := fun w => magSum_any (x := (k : Int)) (y := 0) hA hB w
  rw [ek, e0, hlv] at s1
  have q1 : sideI (k : Int) A ((k : Int) + 1) = jamN A 1 := by unfold sideI; congr 1; first | done | omega
  have q2 : sideI 0 B ((k : Int) + 1) = jamN B ((k + 1 : Nat) : Int) := by unfold sideI; congr 1; first | done | omega
  have q3 : sideI (k : Int) A (k : Int) = A := by unfold sideI; rw [Int.sub_self]; exact jam_zero A (by omega)
  have q4 : sideI 0 B (k : Int) = jamN B (k : Int) := by unfold sideI; congr 1; first | done | omega
  rw [q1, q2, exact_sum hA2 hB2 a4] at s1
  have lS : lenN (A * 2 ^ k) ≤ 20 := by have := lenN_mul_pow (A := A) (n := k); have := len256 hA; omega
  have hc : cmpT (expI (k : Int)) A (expI 0) B = cmpN (A * 2 ^ k) B := by
    rw [ek, e0, cmpT_spec (k : Int) 0 A B 0 (by omega) (by omega)]
    rw [show ((k : Int) - 0).toNat = k by omega, show ((0 : Int) - 0).toNat = 0 from rfl, Nat.pow_zero, Nat.mul_one]
  have hU : W256 (jamN (A * 2 ^ k + B) ((k + 1 : Nat) : Int)) := by rw [← exact_sum hA2 hB2 a4]; exact add256_w _ _
  rcases Nat.lt_or_ge (A * 2 ^ k) B with h | h
  · obtain rfl : k = 0 := by
      rcases k with _ | k
      · rfl
      · have := Nat.mul_le_mul_left A (Nat.two_pow_pos k)
        rw [Nat.pow_succ'] at h
        rw [Nat.mul_comm 2, ← Nat.mul_assoc] at h
        omega
    have d1 := fun w => magDiff_1 (x := ((0 : Nat) : Int)) (y := 0) hA hB rfl (by rw [hc, cmp_lt h]; omega) w
    rw [ek, e0, level_turn, hlv] at d1
    rw [q4, q3] at d1
    have eT : jamN (B - A * 2 ^ 0) ((0 : Nat) : Int) = sub256 (jamN B ((0 : Nat) : Int)) A := by
      rw [jam_zero _ (by omega), jam_zero B (by omega), Nat.pow_zero, Nat.mul_one]
      rw [Nat.pow_zero, Nat.mul_one] at h
      unfold sub256; omega
    exact MagExact_1 (x := ((0 : Nat) : Int)) rfl eA eB hA0 hB0 hA hB hU (sub256_w _ _) p0 p1 pk (by omega) (by omega) rfl lS rfl eT h s1 d1 w
  · have d1 := fun w => magDiff_0 (x := (k : Int)) (y := 0) hA hB rfl (by rw [hc]; exact cmp_ge h) w
    rw [ek, e0, hlv] at d1
    rw [q4, q3] at d1
    exact MagExact_0 (x := (k : Int)) rfl eA eB hA0 hB0 hA hB hU (sub256_w _ _) p0 p1 pk (by omega) (by omega) rfl lS rfl (exact_diff hA2 hB2 at_ a4 h).symm h s1 d1 w
end Go.Proofs.Ythpmbfdbknikcaa
