/- The evaluator: what it knows of the numbers; trees over unknown values; shapes. -/
import Derived.Test.YtpfoifflfgiaoaaGreatDoorK12
import Derived.Test.YtpfoifflfgiaoaaGreatDoorK04
import Derived.Test.YtpfoifflfgiaoaaGreatDoorK06
import Derived.Test.YtpfoifflfgiaoaaGreatDoorK07
import Derived.Test.YtpfoifflfgiaoaaGreatDoorK08
import Derived.Test.YtpfoifflfgiaoaaGreatDoorK05
set_option linter.unusedVariables false
set_option linter.unusedSimpArgs false
namespace Go.Proofs.YtpfoifflfgiaoaaGreatDoor
open Go Go.RowKit Go.MapKept

theorem u64_of {k : IntKind} {i : Int} (h : k.min ≤ i ∧ i ≤ k.max) (hk : k = .u64) : U64 i := by
  subst hk
  have h1 : IntKind.u64.min = 0 := by decide
  have h2 : IntKind.u64.max = 18446744073709551615 := by decide
  exact ⟨by omega, by omega⟩
theorem i64_of {k : IntKind} {i : Int} (h : k.min ≤ i ∧ i ≤ k.max) (hk : k = .i64) : -9223372036854775808 ≤ i ∧ i ≤ 9223372036854775807 := by
  subst hk
  have h1 : IntKind.i64.min = -9223372036854775808 := by decide
  have h2 : IntKind.i64.max = 9223372036854775807 := by decide
  omega
theorem u8_of {k : IntKind} {i : Int} (h : k.min ≤ i ∧ i ≤ k.max) (hk : k = .u8) : 0 ≤ i ∧ i ≤ 255 := by
  subst hk
  have h1 : IntKind.u8.min = 0 := by decide
  have h2 : IntKind.u8.max = 255 := by decide
  omega
theorem to_i64 {i : Int} (h : -9223372036854775808 ≤ i ∧ i ≤ 9223372036854775807) : IntKind.i64.min ≤ i ∧ i ≤ IntKind.i64.max := by
  have h1 : IntKind.i64.min = -9223372036854775808 := by decide
  have h2 : IntKind.i64.max = 9223372036854775807 := by decide
  omega
theorem limb_in (j A : Nat) : IntKind.u64.min ≤ limb j A ∧ limb j A ≤ IntKind.u64.max := by
  have h1 : IntKind.u64.min = 0 := by decide
  have h2 : IntKind.u64.max = 18446744073709551615 := by decide
  have h := limb_u64 j A
  exact ⟨by rw [h1]; exact h.lo, by rw [h2]; exact h.le⟩
theorem cmpN_in (A B : Nat) : IntKind.i64.min ≤ cmpN A B ∧ cmpN A B ≤ IntKind.i64.max := to_i64 (by unfold cmpN cmpI; split <;> (try split) <;> omega)
/-- quot.Div, quot.Mod of whatever comes -/
def divT (A D : Nat) : Nat := if 0 < D then divN A D else 0
def modT (A D : Nat) : Nat := if 0 < D then modN A D else 0
theorem wideV_zero : wideV 0 = .agg #[.int .u64 0, .int .u64 0, .int .u64 0, .int .u64 0] := by kernel_rfl
theorem bitsV_zero : bitsV 0 = .agg #[.int .u64 0, .int .u64 0] := by kernel_rfl
theorem Div_tot {a0 a1 a2 a3 d1 d0 : Int} {A D : Nat} (hA : IsWide a0 a1 a2 a3 A) (hD : IsBits d1 d0 D) (w : World) :
    Calls Tryz.prog 94 #[.agg #[.int .u64 a0, .int .u64 a1, .int .u64 a2, .int .u64 a3], .agg #[.int .u64 d1, .int .u64 d0]] w fun e w' => e = .returned (.tuple #[wideV (divT A D), bitsV (modT A D), .bool (decide (0 < D))]) ∧ Below w.heap.size w w' := by
  by_cases h : 0 < D
  · refine (Div_at hA hD h w).mono ?_
    rintro en w' ⟨rfl, hb⟩
    exact ⟨by simp only [divT, modT, if_pos h, decide_eq_true h], hb⟩
  · refine (Div_zero_at hA hD (by omega) w).mono ?_
    rintro en w' ⟨rfl, hb⟩
    exact ⟨by simp only [divT, modT, if_neg h, decide_eq_false h, wideV_zero, bitsV_zero], hb⟩
def modB (R : Nat) (n : Int) (D : Nat) : Bool := decide (R < D) && (decide (0 ≤ n) && decide (n ≤ 40000))
def farT (R : Nat) (n : Int) (D : Nat) : Nat := if modB R n D = true then farN R D n.toNat else 0
def oddT (R : Nat) (n : Int) (D : Nat) : Bool := if modB R n D = true then oddF R D n.toNat else false
theorem Mod_tot {r1 r0 d1 d0 : Int} {R D : Nat} (hR : IsBits r1 r0 R) (hD : IsBits d1 d0 D) (n : Int) (w : World) :
    Calls Tryz.prog 180 #[.agg #[.int .u64 r1, .int .u64 r0], .int .i64 n, .agg #[.int .u64 d1, .int .u64 d0]] w fun e w' => e = .returned (.tuple #[bitsV (farT R n D), .bool (oddT R n D), .bool (modB R n D)]) ∧ Below w.heap.size w w' := by
  cases hm : modB R n D with
  | true =>
    have h := hm
    simp only [modB, Bool.and_eq_true, decide_eq_true_eq] at h
    refine (Mod_at hR hD h.1 n.toNat (by omega) (by omega) w).mono ?_
    rintro en w' ⟨rfl, hb⟩
    exact ⟨by simp only [farT, oddT, hm, if_true], hb⟩
  | false =>
    have key : Calls Tryz.prog 180 #[.agg #[.int .u64 r1, .int .u64 r0], .int .i64 n, .agg #[.int .u64 d1, .int .u64 d0]] w fun e w' => e = .returned (.tuple #[.agg #[.int .u64 0, .int .u64 0], .bool false, .bool false]) ∧ Below w.heap.size w w' := by
      by_cases h1 : D ≤ R
      · exact Mod_no1_at hR hD n h1 w
      · by_cases h2 : n < 0
        · exact Mod_no2_at hR hD n (by omega) h2 w
        · refine Mod_no3_at hR hD n (by omega) h2 ?_ w
          refine Classical.byContradiction fun h3 => ?_
          have : modB R n D = true := by simp only [modB, Bool.and_eq_true, decide_eq_true_eq]; omega
          rw [hm] at this; cases this
    refine key.mono ?_
    rintro en w' ⟨rfl, hb⟩
    exact ⟨by simp only [farT, oddT, hm, Bool.false_eq_true, if_false, bitsV_zero], hb⟩
theorem Len_tot {n : Int} (n0 : 0 ≤ n) (n1 : n < 2 ^ 64) (w : World) : Calls Tryz.prog 256 #[.int .u64 n] w fun e w' => e = .returned (.int .i64 ((lenB n.toNat : Nat) : Int)) ∧ Below w.heap.size w w' := by
  have h := len64_any (x := n.toNat) (by omega) w
  rw [show ((n.toNat : Nat) : Int) = n by omega] at h
  refine h.mono ?_
  rintro en w' ⟨rfl, rfl⟩
  exact ⟨rfl, Below.refl _ _⟩
theorem lenB_in {n : Int} (n0 : 0 ≤ n) (n1 : n < 2 ^ 64) : IntKind.i64.min ≤ ((lenB n.toNat : Nat) : Int) ∧ ((lenB n.toNat : Nat) : Int) ≤ IntKind.i64.max := to_i64 (by have := lenB_le (A := n.toNat) (n := 64) (by omega); omega)
theorem Cut_tot {a0 a1 a2 a3 : Int} {A : Nat} (hA : IsWide a0 a1 a2 a3 A) (k : Int) {m : Int} (m0 : 0 ≤ m) (neg : Bool) (w : World) :
    Calls Tryz.prog 160 #[.agg #[.int .u64 a0, .int .u64 a1, .int .u64 a2, .int .u64 a3], .int .i64 k, .int .u8 m, .bool neg] w fun e w' => e = .returned (.tuple #[bitsV (cutV A k m neg), .bool (moreV A k m)]) ∧ Below w.heap.size w w' := by
  by_cases h : 0 ≤ k ∧ k ≤ 127 ∧ m ≤ 4
  · rw [hA.e0, hA.e1, hA.e2, hA.e3]
    refine (Cut_in hA.w h.1 h.2.1 m0 h.2.2 neg w).mono ?_
    rintro en w' ⟨rfl, hb⟩
    exact ⟨by simp only [cutV, moreV, if_pos h, decide_eq_true h, Bool.true_and], hb⟩
  · refine (Cut_out a0 a1 a2 a3 (by omega) neg w).mono ?_
    rintro en w' ⟨rfl, hb⟩
    exact ⟨by simp only [cutV, moreV, if_neg h, decide_eq_false h, Bool.false_and, bitsV_zero], hb⟩

structure B2 where
  l : Bool
  i : Int
  j : Int
  hi : U64 i
  hj : U64 j
structure W4 where
  l : Bool
  i : Int
  j : Int
  k : Int
  m : Int
  hi : U64 i
  hj : U64 j
  hk : U64 k
  hm : U64 m
def b2 (x : AV) : Option B2 := match x with
  | .a [p, q] => match ri p, ri q with
    | some a, some b => if h : a.k = .u64 ∧ b.k = .u64 then some ⟨a.l && b.l, a.i, b.i, u64_of a.h h.1, u64_of b.h h.2⟩ else none
    | _, _ => none
  | _ => none
def w4 (x : AV) : Option W4 := match x with
  | .a [p, q, r, s] => match ri p, ri q, ri r, ri s with
    | some a, some b, some c, some d => if h : a.k = .u64 ∧ b.k = .u64 ∧ c.k = .u64 ∧ d.k = .u64 then some ⟨a.l && (b.l && (c.l && d.l)), a.i, b.i, c.i, d.i, u64_of a.h h.1, u64_of b.h h.2.1, u64_of c.h h.2.2.1, u64_of d.h h.2.2.2⟩ else none
    | _, _, _, _ => none
  | _ => none
structure I6 where
  l : Bool
  i : Int
  h0 : -9223372036854775808 ≤ i
  h1 : i ≤ 9223372036854775807
structure U6 where
  l : Bool
  i : Int
  h0 : 0 ≤ i
  h1 : i < 2 ^ 64
structure M8 where
  l : Bool
  i : Int
  h0 : 0 ≤ i
def i6 (x : AV) : Option I6 := match ri x with
  | some a => if h : a.k = .i64 then some ⟨a.l, a.i, (i64_of a.h h).1, (i64_of a.h h).2⟩ else none
  | none => none
def u6 (x : AV) : Option U6 := match ri x with
  | some a => if h : a.k = .u64 then some ⟨a.l, a.i, (u64_of a.h h).lo, (u64_of a.h h).hi⟩ else none
  | none => none
def m8 (x : AV) : Option M8 := match ri x with
  | some a => if h : a.k = .u8 then some ⟨a.l, a.i, (u8_of a.h h).1⟩ else none
  | none => none
def limbA (l : Bool) (j A : Nat) : AV := if l then .n .u64 (limb j A) else .x .u64 ⟨limb j A, limb_in j A⟩
def bitsA (l : Bool) (A : Nat) : AV := .a [limbA l 1 A, limbA l 0 A]
def wideA (l : Bool) (A : Nat) : AV := .a [limbA l 0 A, limbA l 1 A, limbA l 2 A, limbA l 3 A]
section
variable {e : Env}
theorem limbA_den (l : Bool) (j A : Nat) : (limbA l j A).den e = .int .u64 (limb j A) := by unfold limbA; split <;> rfl
theorem bitsA_den (l : Bool) (A : Nat) : (bitsA l A).den e = bitsV A := by simp only [bitsA, AV.den, denL, limbA_den]; try rfl
theorem wideA_den (l : Bool) (A : Nat) : (wideA l A).den e = wideV A := by simp only [wideA, AV.den, denL, limbA_den]; try rfl
theorem b2_den {x : AV} {p : B2} (h : b2 x = some p) : x.den e = .agg #[.int .u64 p.i, .int .u64 p.j] := by
  unfold b2 at h
  split at h <;> try cases h
  split at h <;> try cases h
  rename_i a b h1 h2
  split at h <;> try cases h
  rename_i hk
  simp only [AV.den, denL, ri_den h1, ri_den h2, hk.1, hk.2]
theorem w4_den {x : AV} {p : W4} (h : w4 x = some p) : x.den e = .agg #[.int .u64 p.i, .int .u64 p.j, .int .u64 p.k, .int .u64 p.m] := by
  unfold w4 at h
  split at h <;> try cases h
  split at h <;> try cases h
  rename_i a b c d h1 h2 h3 h4
  split at h <;> try cases h
  rename_i hk
  simp only [AV.den, denL, ri_den h1, ri_den h2, ri_den h3, ri_den h4, hk.1, hk.2.1, hk.2.2.1, hk.2.2.2]
theorem i6_den {x : AV} {p : I6} (h : i6 x = some p) : x.den e = .int .i64 p.i := by
  unfold i6 at h
  split at h <;> try cases h
  rename_i a h1
  split at h <;> try cases h
  rename_i hk
  rw [ri_den h1, hk]
theorem u6_den {x : AV} {p : U6} (h : u6 x = some p) : x.den e = .int .u64 p.i := by
  unfold u6 at h
  split at h <;> try cases h
  rename_i a h1
  split at h <;> try cases h
  rename_i hk
  rw [ri_den h1, hk]
theorem m8_den {x : AV} {p : M8} (h : m8 x = some p) : x.den e = .int .u8 p.i := by
  unfold m8 at h
  split at h <;> try cases h
  rename_i a h1
  split at h <;> try cases h
  rename_i hk
  rw [ri_den h1, hk]
def oAdd (args : List AV) : Option (AV × List Bool) := match args with
  | [x0, x1] => match b2 x0, b2 x1 with
    | some y0, some y1 => some (.t [bitsA (y0.l && y1.l) (add128 (val2 y0.j y0.i) (val2 y1.j y1.i)), mkB (y0.l && y1.l) (carry128 (val2 y0.j y0.i) (val2 y1.j y1.i))], [])
    | _, _ => none
  | _ => none
theorem oAdd_ok {args : List AV} {r : AV} {ob : List Bool} (h : oAdd args = some (r, ob)) (w : World) :
    Calls Tryz.prog 139 (denL e args).toArray w fun en w' => en = .returned (r.den e) ∧ Below w.heap.size w w' := by
  unfold oAdd at h
  split at h <;> try cases h
  rename_i x0 x1
  split at h <;> try cases h
  rename_i y0 y1 hx0 hx1
  have hA := IsBits.val y0.hi y0.hj
  have hB := IsBits.val y1.hi y1.hj
  show Calls _ _ #[x0.den e, x1.den e] w _
  rw [b2_den hx0, b2_den hx1]
  refine (Add_at hA hB w).mono ?_
  rintro en w' ⟨rfl, hb⟩
  exact ⟨by simp only [AV.den, denL, bitsA_den, wideA_den, mkB_den, av_den], hb⟩
def oSub (args : List AV) : Option (AV × List Bool) := match args with
  | [x0, x1] => match b2 x0, b2 x1 with
    | some y0, some y1 => some (.t [bitsA (y0.l && y1.l) (sub128 (val2 y0.j y0.i) (val2 y1.j y1.i)), mkB (y0.l && y1.l) (ltB (val2 y0.j y0.i) (val2 y1.j y1.i))], [])
    | _, _ => none
  | _ => none
theorem oSub_ok {args : List AV} {r : AV} {ob : List Bool} (h : oSub args = some (r, ob)) (w : World) :
    Calls Tryz.prog 179 (denL e args).toArray w fun en w' => en = .returned (r.den e) ∧ Below w.heap.size w w' := by
  unfold oSub at h
  split at h <;> try cases h
  rename_i x0 x1
  split at h <;> try cases h
  rename_i y0 y1 hx0 hx1
  have hA := IsBits.val y0.hi y0.hj
  have hB := IsBits.val y1.hi y1.hj
  show Calls _ _ #[x0.den e, x1.den e] w _
  rw [b2_den hx0, b2_den hx1]
  refine (Sub_at hA hB w).mono ?_
  rintro en w' ⟨rfl, hb⟩
  exact ⟨by simp only [AV.den, denL, bitsA_den, wideA_den, mkB_den, av_den], hb⟩
def oCmp (args : List AV) : Option (AV × List Bool) := match args with
  | [x0, x1] => match b2 x0, b2 x1 with
    | some y0, some y1 => some (RI.av (y0.l && y1.l) .i64 (cmpN (val2 y0.j y0.i) (val2 y1.j y1.i)) (cmpN_in (val2 y0.j y0.i) (val2 y1.j y1.i)), [])
    | _, _ => none
  | _ => none
theorem oCmp_ok {args : List AV} {r : AV} {ob : List Bool} (h : oCmp args = some (r, ob)) (w : World) :
    Calls Tryz.prog 106 (denL e args).toArray w fun en w' => en = .returned (r.den e) ∧ Below w.heap.size w w' := by
  unfold oCmp at h
  split at h <;> try cases h
  rename_i x0 x1
  split at h <;> try cases h
  rename_i y0 y1 hx0 hx1
  have hA := IsBits.val y0.hi y0.hj
  have hB := IsBits.val y1.hi y1.hj
  show Calls _ _ #[x0.den e, x1.den e] w _
  rw [b2_den hx0, b2_den hx1]
  refine (Cmp_at hA hB w).mono ?_
  rintro en w' ⟨rfl, hb⟩
  exact ⟨by simp only [AV.den, denL, bitsA_den, wideA_den, mkB_den, av_den], hb⟩
def oBit (args : List AV) : Option (AV × List Bool) := match args with
  | [x0, x1] => match b2 x0, i6 x1 with
    | some y0, some y1 => some (mkB (y0.l && y1.l) (bitZ (val2 y0.j y0.i) y1.i), [])
    | _, _ => none
  | _ => none
theorem oBit_ok {args : List AV} {r : AV} {ob : List Bool} (h : oBit args = some (r, ob)) (w : World) :
    Calls Tryz.prog 212 (denL e args).toArray w fun en w' => en = .returned (r.den e) ∧ Below w.heap.size w w' := by
  unfold oBit at h
  split at h <;> try cases h
  rename_i x0 x1
  split at h <;> try cases h
  rename_i y0 y1 hx0 hx1
  have hA := IsBits.val y0.hi y0.hj
  show Calls _ _ #[x0.den e, x1.den e] w _
  rw [b2_den hx0, i6_den hx1]
  refine (Bit_at hA y1.i w).mono ?_
  rintro en w' ⟨rfl, hb⟩
  exact ⟨by simp only [AV.den, denL, bitsA_den, wideA_den, mkB_den, av_den], hb⟩
def oZero (args : List AV) : Option (AV × List Bool) := match args with
  | [x0] => match b2 x0 with
    | some y0 => some (mkB y0.l (zeroB (val2 y0.j y0.i)), [])
    | _ => none
  | _ => none
theorem oZero_ok {args : List AV} {r : AV} {ob : List Bool} (h : oZero args = some (r, ob)) (w : World) :
    Calls Tryz.prog 97 (denL e args).toArray w fun en w' => en = .returned (r.den e) ∧ Below w.heap.size w w' := by
  unfold oZero at h
  split at h <;> try cases h
  rename_i x0
  split at h <;> try cases h
  rename_i y0 hx0
  have hA := IsBits.val y0.hi y0.hj
  show Calls _ _ #[x0.den e] w _
  rw [b2_den hx0]
  refine (Zero_at hA w).mono ?_
  rintro en w' ⟨rfl, hb⟩
  exact ⟨by simp only [AV.den, denL, bitsA_den, wideA_den, mkB_den, av_den], hb⟩
def oAddW (args : List AV) : Option (AV × List Bool) := match args with
  | [x0, x1] => match w4 x0, w4 x1 with
    | some y0, some y1 => some (.t [wideA (y0.l && y1.l) (add256 (val4 y0.i y0.j y0.k y0.m) (val4 y1.i y1.j y1.k y1.m)), mkB (y0.l && y1.l) (carry256 (val4 y0.i y0.j y0.k y0.m) (val4 y1.i y1.j y1.k y1.m))], [])
    | _, _ => none
  | _ => none
theorem oAddW_ok {args : List AV} {r : AV} {ob : List Bool} (h : oAddW args = some (r, ob)) (w : World) :
    Calls Tryz.prog 107 (denL e args).toArray w fun en w' => en = .returned (r.den e) ∧ Below w.heap.size w w' := by
  unfold oAddW at h
  split at h <;> try cases h
  rename_i x0 x1
  split at h <;> try cases h
  rename_i y0 y1 hx0 hx1
  have hA := IsWide.val y0.hi y0.hj y0.hk y0.hm
  have hB := IsWide.val y1.hi y1.hj y1.hk y1.hm
  show Calls _ _ #[x0.den e, x1.den e] w _
  rw [w4_den hx0, w4_den hx1]
  refine (AddW_at hA hB w).mono ?_
  rintro en w' ⟨rfl, hb⟩
  exact ⟨by simp only [AV.den, denL, bitsA_den, wideA_den, mkB_den, av_den], hb⟩
def oSubW (args : List AV) : Option (AV × List Bool) := match args with
  | [x0, x1] => match w4 x0, w4 x1 with
    | some y0, some y1 => some (.t [wideA (y0.l && y1.l) (sub256 (val4 y0.i y0.j y0.k y0.m) (val4 y1.i y1.j y1.k y1.m)), mkB (y0.l && y1.l) (ltB (val4 y0.i y0.j y0.k y0.m) (val4 y1.i y1.j y1.k y1.m))], [])
    | _, _ => none
  | _ => none
theorem oSubW_ok {args : List AV} {r : AV} {ob : List Bool} (h : oSubW args = some (r, ob)) (w : World) :
    Calls Tryz.prog 108 (denL e args).toArray w fun en w' => en = .returned (r.den e) ∧ Below w.heap.size w w' := by
  unfold oSubW at h
  split at h <;> try cases h
  rename_i x0 x1
  split at h <;> try cases h
  rename_i y0 y1 hx0 hx1
  have hA := IsWide.val y0.hi y0.hj y0.hk y0.hm
  have hB := IsWide.val y1.hi y1.hj y1.hk y1.hm
  show Calls _ _ #[x0.den e, x1.den e] w _
  rw [w4_den hx0, w4_den hx1]
  refine (SubW_at hA hB w).mono ?_
  rintro en w' ⟨rfl, hb⟩
  exact ⟨by simp only [AV.den, denL, bitsA_den, wideA_den, mkB_den, av_den], hb⟩
def oCmpW (args : List AV) : Option (AV × List Bool) := match args with
  | [x0, x1] => match w4 x0, w4 x1 with
    | some y0, some y1 => some (RI.av (y0.l && y1.l) .i64 (cmpN (val4 y0.i y0.j y0.k y0.m) (val4 y1.i y1.j y1.k y1.m)) (cmpN_in (val4 y0.i y0.j y0.k y0.m) (val4 y1.i y1.j y1.k y1.m)), [])
    | _, _ => none
  | _ => none
theorem oCmpW_ok {args : List AV} {r : AV} {ob : List Bool} (h : oCmpW args = some (r, ob)) (w : World) :
    Calls Tryz.prog 171 (denL e args).toArray w fun en w' => en = .returned (r.den e) ∧ Below w.heap.size w w' := by
  unfold oCmpW at h
  split at h <;> try cases h
  rename_i x0 x1
  split at h <;> try cases h
  rename_i y0 y1 hx0 hx1
  have hA := IsWide.val y0.hi y0.hj y0.hk y0.hm
  have hB := IsWide.val y1.hi y1.hj y1.hk y1.hm
  show Calls _ _ #[x0.den e, x1.den e] w _
  rw [w4_den hx0, w4_den hx1]
  refine (CmpW_at hA hB w).mono ?_
  rintro en w' ⟨rfl, hb⟩
  exact ⟨by simp only [AV.den, denL, bitsA_den, wideA_den, mkB_den, av_den], hb⟩
def oZeroW (args : List AV) : Option (AV × List Bool) := match args with
  | [x0] => match w4 x0 with
    | some y0 => some (mkB y0.l (zeroB (val4 y0.i y0.j y0.k y0.m)), [])
    | _ => none
  | _ => none
theorem oZeroW_ok {args : List AV} {r : AV} {ob : List Bool} (h : oZeroW args = some (r, ob)) (w : World) :
    Calls Tryz.prog 113 (denL e args).toArray w fun en w' => en = .returned (r.den e) ∧ Below w.heap.size w w' := by
  unfold oZeroW at h
  split at h <;> try cases h
  rename_i x0
  split at h <;> try cases h
  rename_i y0 hx0
  have hA := IsWide.val y0.hi y0.hj y0.hk y0.hm
  show Calls _ _ #[x0.den e] w _
  rw [w4_den hx0]
  refine (ZeroW_at hA w).mono ?_
  rintro en w' ⟨rfl, hb⟩
  exact ⟨by simp only [AV.den, denL, bitsA_den, wideA_den, mkB_den, av_den], hb⟩
def oMulW (args : List AV) : Option (AV × List Bool) := match args with
  | [x0, x1] => match b2 x0, b2 x1 with
    | some y0, some y1 => some (wideA (y0.l && y1.l) (mulN (val2 y0.j y0.i) (val2 y1.j y1.i)), [])
    | _, _ => none
  | _ => none
theorem oMulW_ok {args : List AV} {r : AV} {ob : List Bool} (h : oMulW args = some (r, ob)) (w : World) :
    Calls Tryz.prog 157 (denL e args).toArray w fun en w' => en = .returned (r.den e) ∧ Below w.heap.size w w' := by
  unfold oMulW at h
  split at h <;> try cases h
  rename_i x0 x1
  split at h <;> try cases h
  rename_i y0 y1 hx0 hx1
  have hA := IsBits.val y0.hi y0.hj
  have hB := IsBits.val y1.hi y1.hj
  show Calls _ _ #[x0.den e, x1.den e] w _
  rw [b2_den hx0, b2_den hx1]
  refine (MulW_at hA hB w).mono ?_
  rintro en w' ⟨rfl, hb⟩
  exact ⟨by simp only [AV.den, denL, bitsA_den, wideA_den, mkB_den, av_den], hb⟩
def oOf (args : List AV) : Option (AV × List Bool) := match args with
  | [x0] => match b2 x0 with
    | some y0 => some (wideA y0.l (val2 y0.j y0.i), [])
    | _ => none
  | _ => none
theorem oOf_ok {args : List AV} {r : AV} {ob : List Bool} (h : oOf args = some (r, ob)) (w : World) :
    Calls Tryz.prog 101 (denL e args).toArray w fun en w' => en = .returned (r.den e) ∧ Below w.heap.size w w' := by
  unfold oOf at h
  split at h <;> try cases h
  rename_i x0
  split at h <;> try cases h
  rename_i y0 hx0
  have hA := IsBits.val y0.hi y0.hj
  show Calls _ _ #[x0.den e] w _
  rw [b2_den hx0]
  refine (Of_at hA w).mono ?_
  rintro en w' ⟨rfl, hb⟩
  exact ⟨by simp only [AV.den, denL, bitsA_den, wideA_den, mkB_den, av_den], hb⟩
def oHigh (args : List AV) : Option (AV × List Bool) := match args with
  | [x0] => match w4 x0 with
    | some y0 => some (bitsA y0.l (hiN (val4 y0.i y0.j y0.k y0.m)), [])
    | _ => none
  | _ => none
theorem oHigh_ok {args : List AV} {r : AV} {ob : List Bool} (h : oHigh args = some (r, ob)) (w : World) :
    Calls Tryz.prog 219 (denL e args).toArray w fun en w' => en = .returned (r.den e) ∧ Below w.heap.size w w' := by
  unfold oHigh at h
  split at h <;> try cases h
  rename_i x0
  split at h <;> try cases h
  rename_i y0 hx0
  have hA := IsWide.val y0.hi y0.hj y0.hk y0.hm
  show Calls _ _ #[x0.den e] w _
  rw [w4_den hx0]
  refine (High_at hA w).mono ?_
  rintro en w' ⟨rfl, hb⟩
  exact ⟨by simp only [AV.den, denL, bitsA_den, wideA_den, mkB_den, av_den], hb⟩
def oLow (args : List AV) : Option (AV × List Bool) := match args with
  | [x0] => match w4 x0 with
    | some y0 => some (bitsA y0.l (loN (val4 y0.i y0.j y0.k y0.m)), [])
    | _ => none
  | _ => none
theorem oLow_ok {args : List AV} {r : AV} {ob : List Bool} (h : oLow args = some (r, ob)) (w : World) :
    Calls Tryz.prog 227 (denL e args).toArray w fun en w' => en = .returned (r.den e) ∧ Below w.heap.size w w' := by
  unfold oLow at h
  split at h <;> try cases h
  rename_i x0
  split at h <;> try cases h
  rename_i y0 hx0
  have hA := IsWide.val y0.hi y0.hj y0.hk y0.hm
  show Calls _ _ #[x0.den e] w _
  rw [w4_den hx0]
  refine (Low_at hA w).mono ?_
  rintro en w' ⟨rfl, hb⟩
  exact ⟨by simp only [AV.den, denL, bitsA_den, wideA_den, mkB_den, av_den], hb⟩
def oJoin (args : List AV) : Option (AV × List Bool) := match args with
  | [x0, x1] => match b2 x0, b2 x1 with
    | some y0, some y1 => some (wideA (y0.l && y1.l) (joinN (val2 y0.j y0.i) (val2 y1.j y1.i)), [])
    | _, _ => none
  | _ => none
theorem oJoin_ok {args : List AV} {r : AV} {ob : List Bool} (h : oJoin args = some (r, ob)) (w : World) :
    Calls Tryz.prog 95 (denL e args).toArray w fun en w' => en = .returned (r.den e) ∧ Below w.heap.size w w' := by
  unfold oJoin at h
  split at h <;> try cases h
  rename_i x0 x1
  split at h <;> try cases h
  rename_i y0 y1 hx0 hx1
  have hA := IsBits.val y0.hi y0.hj
  have hB := IsBits.val y1.hi y1.hj
  show Calls _ _ #[x0.den e, x1.den e] w _
  rw [b2_den hx0, b2_den hx1]
  refine (Join_at hA hB w).mono ?_
  rintro en w' ⟨rfl, hb⟩
  exact ⟨by simp only [AV.den, denL, bitsA_den, wideA_den, mkB_den, av_den], hb⟩
def oLeft (args : List AV) : Option (AV × List Bool) := match args with
  | [x0, x1] => match b2 x0, i6 x1 with
    | some y0, some y1 => some (bitsA (y0.l && y1.l) (left128 (val2 y0.j y0.i) y1.i), [])
    | _, _ => none
  | _ => none
theorem oLeft_ok {args : List AV} {r : AV} {ob : List Bool} (h : oLeft args = some (r, ob)) (w : World) :
    Calls Tryz.prog 140 (denL e args).toArray w fun en w' => en = .returned (r.den e) ∧ Below w.heap.size w w' := by
  unfold oLeft at h
  split at h <;> try cases h
  rename_i x0 x1
  split at h <;> try cases h
  rename_i y0 y1 hx0 hx1
  have hA := IsBits.val y0.hi y0.hj
  show Calls _ _ #[x0.den e, x1.den e] w _
  rw [b2_den hx0, i6_den hx1]
  refine (Left_at hA y1.i y1.h0 y1.h1 w).mono ?_
  rintro en w' ⟨rfl, hb⟩
  exact ⟨by simp only [AV.den, denL, bitsA_den, wideA_den, mkB_den, av_den], hb⟩
def oRight (args : List AV) : Option (AV × List Bool) := match args with
  | [x0, x1] => match b2 x0, i6 x1 with
    | some y0, some y1 => some (bitsA (y0.l && y1.l) (rightN (val2 y0.j y0.i) y1.i), [])
    | _, _ => none
  | _ => none
theorem oRight_ok {args : List AV} {r : AV} {ob : List Bool} (h : oRight args = some (r, ob)) (w : World) :
    Calls Tryz.prog 184 (denL e args).toArray w fun en w' => en = .returned (r.den e) ∧ Below w.heap.size w w' := by
  unfold oRight at h
  split at h <;> try cases h
  rename_i x0 x1
  split at h <;> try cases h
  rename_i y0 y1 hx0 hx1
  have hA := IsBits.val y0.hi y0.hj
  show Calls _ _ #[x0.den e, x1.den e] w _
  rw [b2_den hx0, i6_den hx1]
  refine (Right_at hA y1.i y1.h0 y1.h1 w).mono ?_
  rintro en w' ⟨rfl, hb⟩
  exact ⟨by simp only [AV.den, denL, bitsA_den, wideA_den, mkB_den, av_den], hb⟩
def oLeftW (args : List AV) : Option (AV × List Bool) := match args with
  | [x0, x1] => match w4 x0, i6 x1 with
    | some y0, some y1 => some (wideA (y0.l && y1.l) (left256 (val4 y0.i y0.j y0.k y0.m) y1.i), [])
    | _, _ => none
  | _ => none
theorem oLeftW_ok {args : List AV} {r : AV} {ob : List Bool} (h : oLeftW args = some (r, ob)) (w : World) :
    Calls Tryz.prog 96 (denL e args).toArray w fun en w' => en = .returned (r.den e) ∧ Below w.heap.size w w' := by
  unfold oLeftW at h
  split at h <;> try cases h
  rename_i x0 x1
  split at h <;> try cases h
  rename_i y0 y1 hx0 hx1
  have hA := IsWide.val y0.hi y0.hj y0.hk y0.hm
  show Calls _ _ #[x0.den e, x1.den e] w _
  rw [w4_den hx0, i6_den hx1]
  refine (WideLeft_at hA y1.i y1.h0 y1.h1 w).mono ?_
  rintro en w' ⟨rfl, hb⟩
  exact ⟨by simp only [AV.den, denL, bitsA_den, wideA_den, mkB_den, av_den], hb⟩
def oRightW (args : List AV) : Option (AV × List Bool) := match args with
  | [x0, x1] => match w4 x0, i6 x1 with
    | some y0, some y1 => some (wideA (y0.l && y1.l) (rightN (val4 y0.i y0.j y0.k y0.m) y1.i), [])
    | _, _ => none
  | _ => none
theorem oRightW_ok {args : List AV} {r : AV} {ob : List Bool} (h : oRightW args = some (r, ob)) (w : World) :
    Calls Tryz.prog 99 (denL e args).toArray w fun en w' => en = .returned (r.den e) ∧ Below w.heap.size w w' := by
  unfold oRightW at h
  split at h <;> try cases h
  rename_i x0 x1
  split at h <;> try cases h
  rename_i y0 y1 hx0 hx1
  have hA := IsWide.val y0.hi y0.hj y0.hk y0.hm
  show Calls _ _ #[x0.den e, x1.den e] w _
  rw [w4_den hx0, i6_den hx1]
  refine (WideRight_at hA y1.i y1.h0 y1.h1 w).mono ?_
  rintro en w' ⟨rfl, hb⟩
  exact ⟨by simp only [AV.den, denL, bitsA_den, wideA_den, mkB_den, av_den], hb⟩
def oJamW (args : List AV) : Option (AV × List Bool) := match args with
  | [x0, x1] => match w4 x0, i6 x1 with
    | some y0, some y1 => some (wideA (y0.l && y1.l) (jamN (val4 y0.i y0.j y0.k y0.m) y1.i), [])
    | _, _ => none
  | _ => none
theorem oJamW_ok {args : List AV} {r : AV} {ob : List Bool} (h : oJamW args = some (r, ob)) (w : World) :
    Calls Tryz.prog 164 (denL e args).toArray w fun en w' => en = .returned (r.den e) ∧ Below w.heap.size w w' := by
  unfold oJamW at h
  split at h <;> try cases h
  rename_i x0 x1
  split at h <;> try cases h
  rename_i y0 y1 hx0 hx1
  have hA := IsWide.val y0.hi y0.hj y0.hk y0.hm
  show Calls _ _ #[x0.den e, x1.den e] w _
  rw [w4_den hx0, i6_den hx1]
  refine (WideJam_at hA y1.i y1.h0 y1.h1 w).mono ?_
  rintro en w' ⟨rfl, hb⟩
  exact ⟨by simp only [AV.den, denL, bitsA_den, wideA_den, mkB_den, av_den], hb⟩
def oLost (args : List AV) : Option (AV × List Bool) := match args with
  | [x0, x1] => match w4 x0, i6 x1 with
    | some y0, some y1 => some (mkB (y0.l && y1.l) (lostB (val4 y0.i y0.j y0.k y0.m) y1.i), [])
    | _, _ => none
  | _ => none
theorem oLost_ok {args : List AV} {r : AV} {ob : List Bool} (h : oLost args = some (r, ob)) (w : World) :
    Calls Tryz.prog 234 (denL e args).toArray w fun en w' => en = .returned (r.den e) ∧ Below w.heap.size w w' := by
  unfold oLost at h
  split at h <;> try cases h
  rename_i x0 x1
  split at h <;> try cases h
  rename_i y0 y1 hx0 hx1
  have hA := IsWide.val y0.hi y0.hj y0.hk y0.hm
  show Calls _ _ #[x0.den e, x1.den e] w _
  rw [w4_den hx0, i6_den hx1]
  refine (Lost_at hA y1.i y1.h0 y1.h1 w).mono ?_
  rintro en w' ⟨rfl, hb⟩
  exact ⟨by simp only [AV.den, denL, bitsA_den, wideA_den, mkB_den, av_den], hb⟩
def oDiv (args : List AV) : Option (AV × List Bool) := match args with
  | [x0, x1] => match w4 x0, b2 x1 with
    | some y0, some y1 => some (.t [wideA (y0.l && y1.l) (divT (val4 y0.i y0.j y0.k y0.m) (val2 y1.j y1.i)), bitsA (y0.l && y1.l) (modT (val4 y0.i y0.j y0.k y0.m) (val2 y1.j y1.i)), mkB (y0.l && y1.l) (decide (0 < (val2 y1.j y1.i)))], [])
    | _, _ => none
  | _ => none
theorem oDiv_ok {args : List AV} {r : AV} {ob : List Bool} (h : oDiv args = some (r, ob)) (w : World) :
    Calls Tryz.prog 94 (denL e args).toArray w fun en w' => en = .returned (r.den e) ∧ Below w.heap.size w w' := by
  unfold oDiv at h
  split at h <;> try cases h
  rename_i x0 x1
  split at h <;> try cases h
  rename_i y0 y1 hx0 hx1
  have hA := IsWide.val y0.hi y0.hj y0.hk y0.hm
  have hB := IsBits.val y1.hi y1.hj
  show Calls _ _ #[x0.den e, x1.den e] w _
  rw [w4_den hx0, b2_den hx1]
  refine (Div_tot hA hB w).mono ?_
  rintro en w' ⟨rfl, hb⟩
  exact ⟨by simp only [AV.den, denL, bitsA_den, wideA_den, mkB_den, av_den], hb⟩
def oMod (args : List AV) : Option (AV × List Bool) := match args with
  | [x0, x1, x2] => match b2 x0, i6 x1, b2 x2 with
    | some y0, some y1, some y2 => some (.t [bitsA (y0.l && y1.l && y2.l) (farT (val2 y0.j y0.i) y1.i (val2 y2.j y2.i)), mkB (y0.l && y1.l && y2.l) (oddT (val2 y0.j y0.i) y1.i (val2 y2.j y2.i)), mkB (y0.l && y1.l && y2.l) (modB (val2 y0.j y0.i) y1.i (val2 y2.j y2.i))], [])
    | _, _, _ => none
  | _ => none
theorem oMod_ok {args : List AV} {r : AV} {ob : List Bool} (h : oMod args = some (r, ob)) (w : World) :
    Calls Tryz.prog 180 (denL e args).toArray w fun en w' => en = .returned (r.den e) ∧ Below w.heap.size w w' := by
  unfold oMod at h
  split at h <;> try cases h
  rename_i x0 x1 x2
  split at h <;> try cases h
  rename_i y0 y1 y2 hx0 hx1 hx2
  have hA := IsBits.val y0.hi y0.hj
  have hB := IsBits.val y2.hi y2.hj
  show Calls _ _ #[x0.den e, x1.den e, x2.den e] w _
  rw [b2_den hx0, i6_den hx1, b2_den hx2]
  refine (Mod_tot hA hB y1.i w).mono ?_
  rintro en w' ⟨rfl, hb⟩
  exact ⟨by simp only [AV.den, denL, bitsA_den, wideA_den, mkB_den, av_den], hb⟩
def oRoot (args : List AV) : Option (AV × List Bool) := match args with
  | [x0] => match w4 x0 with
    | some y0 => some (.t [bitsA y0.l (rootN (val4 y0.i y0.j y0.k y0.m)), mkB y0.l (exactB (val4 y0.i y0.j y0.k y0.m))], [])
    | _ => none
  | _ => none
theorem oRoot_ok {args : List AV} {r : AV} {ob : List Bool} (h : oRoot args = some (r, ob)) (w : World) :
    Calls Tryz.prog 100 (denL e args).toArray w fun en w' => en = .returned (r.den e) ∧ Below w.heap.size w w' := by
  unfold oRoot at h
  split at h <;> try cases h
  rename_i x0
  split at h <;> try cases h
  rename_i y0 hx0
  have hA := IsWide.val y0.hi y0.hj y0.hk y0.hm
  show Calls _ _ #[x0.den e] w _
  rw [w4_den hx0]
  refine (Root_at hA w).mono ?_
  rintro en w' ⟨rfl, hb⟩
  exact ⟨by simp only [AV.den, denL, bitsA_den, wideA_den, mkB_den, av_den], hb⟩
def oLen (args : List AV) : Option (AV × List Bool) := match args with
  | [x0] => match u6 x0 with
    | some y0 => some (RI.av y0.l .i64 ((lenB y0.i.toNat : Nat) : Int) (lenB_in y0.h0 y0.h1), [])
    | _ => none
  | _ => none
theorem oLen_ok {args : List AV} {r : AV} {ob : List Bool} (h : oLen args = some (r, ob)) (w : World) :
    Calls Tryz.prog 256 (denL e args).toArray w fun en w' => en = .returned (r.den e) ∧ Below w.heap.size w w' := by
  unfold oLen at h
  split at h <;> try cases h
  rename_i x0
  split at h <;> try cases h
  rename_i y0 hx0
  show Calls _ _ #[x0.den e] w _
  rw [u6_den hx0]
  refine (Len_tot y0.h0 y0.h1 w).mono ?_
  rintro en w' ⟨rfl, hb⟩
  exact ⟨by simp only [AV.den, denL, bitsA_den, wideA_den, mkB_den, av_den], hb⟩
def oNext (args : List AV) : Option (AV × List Bool) := match args with
  | [x0, x1, x2, x3] => match m8 x0, boolV x1, boolV x2, m8 x3 with
    | some y0, some (lz, z), some (ly, y), some y3 => some (mkB (y0.l && lz && ly && y3.l) (nextB y0.i z y y3.i), [])
    | _, _, _, _ => none
  | _ => none
theorem oNext_ok {args : List AV} {r : AV} {ob : List Bool} (h : oNext args = some (r, ob)) (w : World) :
    Calls Tryz.prog 229 (denL e args).toArray w fun en w' => en = .returned (r.den e) ∧ Below w.heap.size w w' := by
  unfold oNext at h
  split at h <;> try cases h
  rename_i x0 x1 x2 x3
  split at h <;> try cases h
  rename_i y0 lz z ly y y3 hx0 hx1 hx2 hx3
  show Calls _ _ #[x0.den e, x1.den e, x2.den e, x3.den e] w _
  rw [m8_den hx0, boolV_den hx1, boolV_den hx2, m8_den hx3]
  refine (Next_any y0.i z y y3.i y0.h0 y3.h0 w).mono ?_
  rintro en w' ⟨rfl, hb⟩
  exact ⟨by simp only [AV.den, denL, bitsA_den, wideA_den, mkB_den, av_den], hb⟩
def oInf (args : List AV) : Option (AV × List Bool) := match args with
  | [x0, x1] => match m8 x0, boolV x1 with
    | some y0, some (lz, z) => some (mkB (y0.l && lz) (nextB y0.i z true 3), [])
    | _, _ => none
  | _ => none
theorem oInf_ok {args : List AV} {r : AV} {ob : List Bool} (h : oInf args = some (r, ob)) (w : World) :
    Calls Tryz.prog 233 (denL e args).toArray w fun en w' => en = .returned (r.den e) ∧ Below w.heap.size w w' := by
  unfold oInf at h
  split at h <;> try cases h
  rename_i x0 x1
  split at h <;> try cases h
  rename_i y0 lz z hx0 hx1
  show Calls _ _ #[x0.den e, x1.den e] w _
  rw [m8_den hx0, boolV_den hx1]
  refine (Infinite_any y0.i z y0.h0 w).mono ?_
  rintro en w' ⟨rfl, hb⟩
  exact ⟨by simp only [AV.den, denL, bitsA_den, wideA_den, mkB_den, av_den], hb⟩
def oCut (args : List AV) : Option (AV × List Bool) := match args with
  | [x0, x1, x2, x3] => match w4 x0, i6 x1, m8 x2, boolV x3 with
    | some y0, some y1, some y2, some (lz, z) => some (.t [bitsA (y0.l && y1.l && y2.l && lz) (cutV (val4 y0.i y0.j y0.k y0.m) y1.i y2.i z), mkB (y0.l && y1.l && y2.l && lz) (moreV (val4 y0.i y0.j y0.k y0.m) y1.i y2.i)], [])
    | _, _, _, _ => none
  | _ => none
theorem oCut_ok {args : List AV} {r : AV} {ob : List Bool} (h : oCut args = some (r, ob)) (w : World) :
    Calls Tryz.prog 160 (denL e args).toArray w fun en w' => en = .returned (r.den e) ∧ Below w.heap.size w w' := by
  unfold oCut at h
  split at h <;> try cases h
  rename_i x0 x1 x2 x3
  split at h <;> try cases h
  rename_i y0 y1 y2 lz z hx0 hx1 hx2 hx3
  have hA := IsWide.val y0.hi y0.hj y0.hk y0.hm
  show Calls _ _ #[x0.den e, x1.den e, x2.den e, x3.den e] w _
  rw [w4_den hx0, i6_den hx1, m8_den hx2, boolV_den hx3]
  refine (Cut_tot hA y1.i y2.h0 z w).mono ?_
  rintro en w' ⟨rfl, hb⟩
  exact ⟨by simp only [AV.den, denL, bitsA_den, wideA_den, mkB_den, av_den], hb⟩
end
theorem ite_some {α : Type} {c : Prop} [Decidable c] {a b : Option α} {x : α} (h : (if c then a else b) = some x) : (c ∧ a = some x) ∨ (¬ c ∧ b = some x) := by
  split at h
  · exact .inl ⟨by assumption, h⟩
  · exact .inr ⟨by assumption, h⟩
def orcN : Orc := fun f args _ =>
  if f = 139 then oAdd args
  else if f = 179 then oSub args
  else if f = 106 then oCmp args
  else if f = 212 then oBit args
  else if f = 97 then oZero args
  else if f = 107 then oAddW args
  else if f = 108 then oSubW args
  else if f = 171 then oCmpW args
  else if f = 113 then oZeroW args
  else if f = 157 then oMulW args
  else if f = 101 then oOf args
  else if f = 219 then oHigh args
  else if f = 227 then oLow args
  else if f = 95 then oJoin args
  else if f = 140 then oLeft args
  else if f = 184 then oRight args
  else if f = 96 then oLeftW args
  else if f = 99 then oRightW args
  else if f = 164 then oJamW args
  else if f = 234 then oLost args
  else if f = 94 then oDiv args
  else if f = 180 then oMod args
  else if f = 100 then oRoot args
  else if f = 256 then oLen args
  else if f = 229 then oNext args
  else if f = 233 then oInf args
  else if f = 160 then oCut args
  else none
theorem orcN_ok {B : Nat} {W : World} : OrcOk Tryz.prog B W orcN := by
  intro f args hp r ob h ho e w hW hB
  unfold orcN at h
  rcases ite_some h with ⟨rfl, h⟩ | ⟨_, h⟩
  · exact oAdd_ok h w
  rcases ite_some h with ⟨rfl, h⟩ | ⟨_, h⟩
  · exact oSub_ok h w
  rcases ite_some h with ⟨rfl, h⟩ | ⟨_, h⟩
  · exact oCmp_ok h w
  rcases ite_some h with ⟨rfl, h⟩ | ⟨_, h⟩
  · exact oBit_ok h w
  rcases ite_some h with ⟨rfl, h⟩ | ⟨_, h⟩
  · exact oZero_ok h w
  rcases ite_some h with ⟨rfl, h⟩ | ⟨_, h⟩
  · exact oAddW_ok h w
  rcases ite_some h with ⟨rfl, h⟩ | ⟨_, h⟩
  · exact oSubW_ok h w
  rcases ite_some h with ⟨rfl, h⟩ | ⟨_, h⟩
  · exact oCmpW_ok h w
  rcases ite_some h with ⟨rfl, h⟩ | ⟨_, h⟩
  · exact oZeroW_ok h w
  rcases ite_some h with ⟨rfl, h⟩ | ⟨_, h⟩
  · exact oMulW_ok h w
  rcases ite_some h with ⟨rfl, h⟩ | ⟨_, h⟩
  · exact oOf_ok h w
  rcases ite_some h with ⟨rfl, h⟩ | ⟨_, h⟩
  · exact oHigh_ok h w
  rcases ite_some h with ⟨rfl, h⟩ | ⟨_, h⟩
  · exact oLow_ok h w
  rcases ite_some h with ⟨rfl, h⟩ | ⟨_, h⟩
  · exact oJoin_ok h w
  rcases ite_some h with ⟨rfl, h⟩ | ⟨_, h⟩
  · exact oLeft_ok h w
  rcases ite_some h with ⟨rfl, h⟩ | ⟨_, h⟩
  · exact oRight_ok h w
  rcases ite_some h with ⟨rfl, h⟩ | ⟨_, h⟩
  · exact oLeftW_ok h w
  rcases ite_some h with ⟨rfl, h⟩ | ⟨_, h⟩
  · exact oRightW_ok h w
  rcases ite_some h with ⟨rfl, h⟩ | ⟨_, h⟩
  · exact oJamW_ok h w
  rcases ite_some h with ⟨rfl, h⟩ | ⟨_, h⟩
  · exact oLost_ok h w
  rcases ite_some h with ⟨rfl, h⟩ | ⟨_, h⟩
  · exact oDiv_ok h w
  rcases ite_some h with ⟨rfl, h⟩ | ⟨_, h⟩
  · exact oMod_ok h w
  rcases ite_some h with ⟨rfl, h⟩ | ⟨_, h⟩
  · exact oRoot_ok h w
  rcases ite_some h with ⟨rfl, h⟩ | ⟨_, h⟩
  · exact oLen_ok h w
  rcases ite_some h with ⟨rfl, h⟩ | ⟨_, h⟩
  · exact oNext_ok h w
  rcases ite_some h with ⟨rfl, h⟩ | ⟨_, h⟩
  · exact oInf_ok h w
  rcases ite_some h with ⟨rfl, h⟩ | ⟨_, h⟩
  · exact oCut_ok h w
  cases h
end Go.Proofs.YtpfoifflfgiaoaaGreatDoor
namespace Go.Proofs.YtpfoifflfgiaoaaGreatDoor
open Go Go.RowKit Go.MapKept

/-- what may come, by tests -/
inductive Tr (α : Type) where
  | ret (a : α)
  | fail
  | test (c : Bool) (t f : Tr α)
def Tr.ev {α : Type} : Tr α → Option α
  | .ret a => some a
  | .fail => none
  | .test c t f => if c = true then t.ev else f.ev
def Tr.all {α : Type} (p : α → Bool) : Tr α → Bool
  | .ret a => p a
  | .fail => false
  | .test _ t f => t.all p && f.all p
theorem Tr.all_ev {α : Type} {p : α → Bool} : ∀ {t : Tr α}, t.all p = true → ∃ a, t.ev = some a ∧ p a = true
  | .ret a, h => ⟨a, rfl, h⟩
  | .fail, h => by cases h
  | .test c t f, h => by
    simp only [Tr.all, Bool.and_eq_true] at h
    unfold Tr.ev
    split
    · exact Tr.all_ev h.1
    · exact Tr.all_ev h.2
def decT {α : Type} (x : AV) (K : Bool → Tr α) : Tr α := match x with
  | .b b => K b
  | .v (.bool c) => .test c (K true) (K false)
  | _ => .fail
theorem decT_ok {α : Type} {x : AV} {K : Bool → Tr α} {r : α} (h : (decT x K).ev = some r) (pa : List Nat) : ∃ b, decB x pa = some (b, pa, []) ∧ (K b).ev = some r := by
  unfold decT at h
  split at h
  · exact ⟨_, rfl, h⟩
  · rename_i c
    refine ⟨c, rfl, ?_⟩
    unfold Tr.ev at h
    cases c
    · simpa using h
    · simpa using h
  · cases h

abbrev ClC (α : Type) := FuncId → List AV → List Blk → List Nat → ((AV × List Blk × List Nat × List Bool × List Nat) → Tr α) → Tr α
abbrev ExC (α : Type) := Code → St → ((Ex × St × List Bool × List Nat) → Tr α) → Tr α
abbrev DrC (α : Type) := ClC α → Array Oper → St → (Rs → Tr α) → Tr α
section
variable {α : Type}
def wantedC (ops : Array Oper) (o : Oper) (tm : List AV) (K : Bool → Tr α) : Tr α :=
  match o.guard with
  | none => K true
  | some (j, want) => match (ops[j]?).bind (·.dst) with
    | none => K false
    | some t => match tm[t]? with
      | some (.b y) => K (y == want)
      | some (.v (.bool y)) => decT (.v (.bool y)) fun y => K (y == want)
      | some (.t _) => K false
      | _ => .fail
def eqC (d : TypeDesc) (x y : AV) (K : Bool → Tr α) : Tr α :=
  match d, intV x, intV y with
  | .int q, some (l, k, a), some (l', k', b) => if k = q ∧ k' = q then decT (mkB (l && l') (a == b)) K else .fail
  | _, _, _ => match d, x, y with
    | .string, .v (.string a), .v (.string b) => K (a.data.toList == b.data.toList)
    | _, _, _ => .fail
def findC (d : TypeDesc) (x : AV) (K : Option AV → Tr α) : List (AV × AV × Nat) → Tr α
  | [] => K none
  | (k, v, _) :: es => eqC d x k fun b => match b with
    | true => K (some v)
    | false => findC d x K es
def lookC (P : Program) (t : TypeId) (m key : AV) (ok : Bool) (h : List Blk) (K : AV → Tr α) : Tr α :=
  match P.underlying t, m with
  | some (.map kt et), .m id => match P.underlying kt, h[id]? with
    | some d, some (.map es c) => if isKeyA d key then findC d key (fun v => match v with
      | some v => K (if ok then .t [v, .b true] else v)
      | none => match P.info? et with
        | some i => match i.zero with
          | some z => K (if ok then .t [lift z, .b false] else lift z)
          | none => .fail
        | none => .fail) es else .fail
    | _, _ => .fail
  | _, _ => .fail
theorem eqC_ok {d : TypeDesc} {x y : AV} {K : Bool → Tr α} {r : α} (h : (eqC d x y K).ev = some r) (pa : List Nat) : ∃ b, eqKey d x y pa = some (b, pa, []) ∧ (K b).ev = some r := by
  unfold eqC at h
  unfold eqKey
  split at h
  · rename_i hx hy
    rw [hx, hy]
    simp only
    split at h
    · rename_i hk
      rw [if_pos hk]
      obtain ⟨b, h1, h2⟩ := decT_ok h pa
      exact ⟨b, h1, h2⟩
    · cases h
  · rename_i hne
    split at h
    · rename_i a b _
      refine ⟨_, ?_, h⟩
      rfl
    · cases h
theorem findC_ok {d : TypeDesc} {x : AV} {K : Option AV → Tr α} {r : α} (pa : List Nat) : ∀ {es : List (AV × AV × Nat)}, (findC d x K es).ev = some r → ∃ v, findA d x es pa = some (v, pa, []) ∧ (K v).ev = some r
  | [], h => ⟨none, rfl, h⟩
  | (k, v, n) :: es, h => by
    unfold findC at h
    obtain ⟨b, h1, h2⟩ := eqC_ok h pa
    unfold findA
    rw [h1]
    cases b
    · obtain ⟨v', h3, h4⟩ := findC_ok pa h2
      simp only [h3]
      exact ⟨v', rfl, h4⟩
    · exact ⟨some v, rfl, h2⟩
theorem lookC_ok {P : Program} {t : TypeId} {m key : AV} {ok : Bool} {h : List Blk} {K : AV → Tr α} {r : α} (pa : List Nat) (hr : (lookC P t m key ok h K).ev = some r) : ∃ v, opLookup P t m key ok h pa = some (v, pa, []) ∧ (K v).ev = some r := by
  unfold lookC at hr
  unfold opLookup
  split at hr
  · rename_i kt et id hu
    rw [hu]
    simp only
    split at hr
    · rename_i dd es c hk hid
      rw [hk, hid]
      simp only
      split at hr
      · rename_i hg
        rw [if_pos hg]
        obtain ⟨v, h1, h2⟩ := findC_ok pa hr
        rw [h1]
        cases v with
        | some v => exact ⟨_, rfl, h2⟩
        | none =>
          simp only at h2 ⊢
          split at h2
          · rename_i i hi
            rw [hi]
            simp only
            split at h2
            · rename_i z hz
              rw [hz]
              exact ⟨_, rfl, h2⟩
            · cases h2
          · cases h2
      · cases hr
    · cases hr
  · cases hr
def aopC (P : Program) (x : Ext) (o : Oper) (h : List Blk) (tm : List AV) (pa : List Nat) (K : Out → Tr α) : Tr α :=
  match o.op with
  | .pick c a b => decT (aval h tm c) fun t => K ⟨.val (if t then aval h tm a else aval h tm b), h, pa, [], []⟩
  | .lookup t m k ok => lookC P t (aval h tm m) (aval h tm k) ok h fun v => K ⟨.val v, h, pa, [], []⟩
  | _ => match aop P x o h tm pa with
    | some out => K out
    | none => .fail
/-- a frame's truth value that decides is told apart, and known from there on -/
def settleC (tm : List AV) (t : Option Nat) (K : List AV → Tr α) : Tr α := match t with
  | none => K tm
  | some t => match tm[t]? with
    | some (.v (.bool c)) => .test c (K (tm.set t (.b true))) (K (tm.set t (.b false)))
    | _ => K tm
theorem set_same {tm : List AV} {t : Nat} {y : AV} (h : tm[t]? = some y) : tm.set t y = tm := by
  apply List.ext_getElem?
  intro i
  rw [List.getElem?_set]
  split
  · rename_i h1
    subst h1
    split
    · exact h.symm
    · rw [List.getElem?_eq_none (by omega)]
  · rfl
theorem settleC_ok {tm : List AV} {t : Option Nat} {K : List AV → Tr α} {r : α} (h : (settleC tm t K).ev = some r) : (K (settle tm t)).ev = some r := by
  cases t with
  | none => exact h
  | some t =>
    unfold settle
    simp only [settleC] at h ⊢
    cases hx : tm[t]? with
    | none => rw [hx] at h; exact h
    | some y =>
      rw [hx] at h
      cases y with
      | v v =>
        cases v with
        | bool c =>
          simp only [Tr.ev] at h
          simp only [litB]
          cases c <;> simpa using h
        | _ => simp only [litB]; rw [set_same hx]; exact h
      | _ => simp only [litB]; rw [set_same hx]; exact h
/-- a value, as far as its form -/
def fW {β : Type} : AV → (AV → β) → β
  | .v x, K => K (.v x)
  | .n k i, K => fInt i fun i => K (.n k i)
  | .x k i, K => K (.x k i)
  | .b x, K => K (.b x)
  | .p k o, K => fNat k fun k => fNat o fun o => K (.p k o)
  | .s k o n c, K => fNat k fun k => fNat o fun o => fNat n fun n => K (.s k o n c)
  | .a l, K => K (.a l)
  | .t l, K => K (.t l)
  | .f fn x y, K => K (.f fn x y)
  | .m k, K => fNat k fun k => K (.m k)
  | .i ty x, K => K (.i ty x)
theorem fW_eq {β : Type} (v : AV) (K : AV → β) : fW v K = K v := by cases v <;> simp only [fW, fNat_eq, fInt_eq]
/-- a list, as far as its spine -/
def fS {γ β : Type} : List γ → (List γ → β) → β
  | [], K => K []
  | x :: l, K => fS l fun l => K (x :: l)
theorem fS_eq {γ β : Type} : ∀ (l : List γ) (K : List γ → β), fS l K = K l
  | [], K => rfl
  | x :: l, K => by simp only [fS, fS_eq l]
def oneC0 (P : Program) (x : Ext) (cl : ClC α) (ops : Array Oper) (o : Oper) (s : St) (K : AV × Rs → Tr α) : Tr α :=
  wantedC ops o s.tm fun wt => match wt with
  | false => K (.t [], ⟨⟨setT s.tm o.dst (.t []), s.h, s.pa⟩, [], []⟩)
  | true => aopC P x o s.h s.tm s.pa fun out => match out with
    | ⟨.val r, h', pa', ob', d⟩ => if r.sc (lt h'.length) then fW r fun r => K (r, ⟨⟨setT s.tm o.dst r, h', pa'⟩, ob', d⟩) else .fail
    | ⟨.skip, h', pa', ob', d⟩ => K (.t [], ⟨⟨setT s.tm o.dst (.t []), h', pa'⟩, ob', d⟩)
    | ⟨.enter f args, h', pa', ob', d⟩ => if scL (lt h'.length) args then cl f args h' pa' fun q => match q with
      | (r, h'', pa'', ob'', d'') => if r.sc (lt h''.length) then fW r fun r => K (r, ⟨⟨setT s.tm o.dst r, h'', pa''⟩, ob' ++ ob'', d''⟩) else .fail else .fail
def oneC (P : Program) (x : Ext) (cl : ClC α) (ops : Array Oper) (o : Oper) (s : St) (K : AV × Rs → Tr α) : Tr α :=
  settleC s.tm (gslot ops o) fun tm => settleC tm (pslot o) fun tm => oneC0 P x cl ops o ⟨tm, s.h, s.pa⟩ K
def runC (P : Program) (x : Ext) (cl : ClC α) (ops : Array Oper) : List Oper → St → (Rs → Tr α) → Tr α
  | [], s, K => K ⟨s, [], []⟩
  | o :: l, s, K => oneC P x cl ops o s fun q => runC P x cl ops l q.2.s fun rs' => K ⟨rs'.s, q.2.ob ++ rs'.ob, q.2.d ++ rs'.d⟩
def snapsC (P : Program) (x : Ext) (cl : ClC α) (ops : Array Oper) : List Oper → St → (List Sn × St → Tr α) → Tr α
  | [], s, K => K ([], s)
  | o :: l, s, K => oneC P x cl ops o ⟨s.tm, maskH s.h (footOf o s.h s.tm), s.pa⟩ fun q =>
      snapsC P x cl ops l ⟨q.2.s.tm, mrg s.h q.2.s.h q.2.d, q.2.s.pa⟩ fun p => K (⟨s, q.1, q.2, footOf o s.h s.tm⟩ :: p.1, p.2)
def drawnC (P : Program) (x : Ext) : DrC α := fun cl ops s K =>
  if P.follows .mixedOrders && depB .any ops ops.size && Region.noSelect ops then
    snapsC P x cl ops ops.toList s fun p => if okS ops p.1 p.2 then K ⟨p.2, p.1.flatMap (·.rs.ob), p.1.flatMap (·.rs.d)⟩ else .fail
  else .fail
def backC (n : Nat) (r : AV) (h' : List Blk) (pa : List Nat) (ob : List Bool) (d : List Nat) (K : (AV × List Blk × List Nat × List Bool × List Nat) → Tr α) : Tr α :=
  if r.sc (lt n) && (h'.take n).all (·.sc (lt n)) then fAV r fun r => fH (h'.take n) fun h' => K (r, h', pa, ob, d.filter (lt n)) else fAV r fun r => fH h' fun h' => K (r, h', pa, ob, d)
abbrev OrcC (α : Type) := FuncId → List AV → List Blk → Option ((AV → Tr α) → Tr α)
def callC (P : Program) (orc : OrcC α) (ex : ExC α) : ClC α := fun f args h pa K =>
  match orc f args h with
  | some t => t fun r => if r.sc (fun _ => false) then fAV r fun r => K (r, h, pa, [], []) else .fail
  | none => match P.funcs[f]? with
    | some fn => match fn.body with
      | some c => ex c ⟨enterA fn args, h, pa⟩ fun q => match q with
        | (y, s', ob, d) => if y.out then match resA P fn s'.tm s'.h with
          | some r => if h.length ≤ s'.h.length then backC h.length r s'.h s'.pa ob d K else .fail
          | none => .fail else .fail
      | none => .fail
    | none => .fail
def execC (P : Program) (x : Ext) (orc : OrcC α) (dr : DrC α) : Nat → ExC α
  | 0, _, _, _ => .fail
  | n + 1, c, s, K => match c with
    | .skip => K (.normal, s, [], [])
    | .seq a b => execC P x orc dr n a s fun q => match q with
      | (.normal, s1, o1, d1) => execC P x orc dr n b s1 fun q => K (q.1, q.2.1, o1 ++ q.2.2.1, d1 ++ q.2.2.2)
      | (.exit id, s1, o1, d1) => K (.exit id, s1, o1, d1)
      | (.ret, s1, o1, d1) => K (.ret, s1, o1, d1)
    | .cond c a b => settleC s.tm (cslot c) fun tm => decT (aval s.h tm c) fun t => execC P x orc dr n (if t then a else b) ⟨tm, s.h, s.pa⟩ fun q => K (q.1, q.2.1, q.2.2.1, q.2.2.2)
    | .block id c => execC P x orc dr n c s fun q => match q with
      | (.normal, s1, o1, d1) => K (.normal, s1, o1, d1)
      | (.exit id', s1, o1, d1) => if id' = id then K (.normal, s1, o1, d1) else K (.exit id', s1, o1, d1)
      | (.ret, s1, o1, d1) => K (.ret, s1, o1, d1)
    | .loop c => execC P x orc dr n c s fun q => match q with
      | (.normal, s1, o1, d1) => execC P x orc dr n (.loop c) s1 fun q => K (q.1, q.2.1, o1 ++ q.2.2.1, d1 ++ q.2.2.2)
      | (.exit id, s1, o1, d1) => K (.exit id, s1, o1, d1)
      | (.ret, s1, o1, d1) => K (.ret, s1, o1, d1)
    | .exit id => K (.exit id, s, [], [])
    | .scope c => execC P x orc dr n c s K
    | .ret => K (.ret, s, [], [])
    | .region _ ops false => match deferA P x ops s with
      | some s1 => K (.normal, s1, [], [])
      | none => runC P x (callC P orc (execC P x orc dr n)) ops ops.toList s fun rs => fS rs.s.tm fun tm => fS rs.s.h fun h => K (.normal, ⟨tm, h, rs.s.pa⟩, rs.ob, rs.d)
    | .region _ ops true => dr (callC P orc (execC P x orc dr n)) ops s fun rs => fS rs.s.tm fun tm => fS rs.s.h fun h => K (.normal, ⟨tm, h, rs.s.pa⟩, rs.ob, rs.d)
    | _ => .fail

/-! what the tree answers the evaluator answers -/
def ClT (cl : Cl) (clc : ClC α) : Prop := ∀ f args h pa K r, (clc f args h pa K).ev = some r → ∃ q, cl f args h pa = some q ∧ (K q).ev = some r
def ExT (ex : Exec) (exc : ExC α) : Prop := ∀ c s K r, (exc c s K).ev = some r → ∃ q, ex c s = some q ∧ (K q).ev = some r
def OrT (orc : Orc) (orcc : OrcC α) : Prop := ∀ f args h,
  (∀ t, orcc f args h = some t → ∀ K r, (t K).ev = some r → ∃ q, orc f args h = some (q, []) ∧ (K q).ev = some r) ∧ (orcc f args h = none → orc f args h = none)
variable {P : Program} {x : Ext} {r : α}
theorem wantedC_ok {ops : Array Oper} {o : Oper} {tm : List AV} {K : Bool → Tr α} (h : (wantedC ops o tm K).ev = some r) (pa : List Nat) : ∃ b, wantedA ops o tm pa = some (b, pa, []) ∧ (K b).ev = some r := by
  unfold wantedC at h
  unfold wantedA
  split at h
  · rename_i hg; rw [hg]; exact ⟨true, rfl, h⟩
  · rename_i j want hg
    rw [hg]
    simp only
    split at h
    · rename_i hd; rw [hd]; exact ⟨false, rfl, h⟩
    · rename_i t hd
      rw [hd]
      simp only
      split at h
      · rename_i y hy; rw [hy]; exact ⟨_, rfl, h⟩
      · rename_i y hy
        obtain ⟨b, h1, h2⟩ := decT_ok h pa
        rw [hy]
        simp only [h1]
        exact ⟨_, rfl, h2⟩
      · rename_i y hy; rw [hy]; exact ⟨_, rfl, h⟩
      · cases h
theorem aopC_ok {o : Oper} {h : List Blk} {tm : List AV} {pa : List Nat} {K : Out → Tr α} (hr : (aopC P x o h tm pa K).ev = some r) : ∃ out, aop P x o h tm pa = some out ∧ (K out).ev = some r := by
  unfold aopC at hr
  split at hr
  · rename_i c a b ho
    obtain ⟨t, h1, h2⟩ := decT_ok hr pa
    refine ⟨_, ?_, h2⟩
    unfold aop
    simp only [ho, opPick, h1]
  · rename_i t m k ok ho
    obtain ⟨v, h1, h2⟩ := lookC_ok pa hr
    refine ⟨_, ?_, h2⟩
    unfold aop
    simp only [ho, h1]
  · split at hr
    · exact ⟨_, by assumption, hr⟩
    · cases hr
theorem oneC0_ok {cl : Cl} {clc : ClC α} (hcl : ClT cl clc) {ops : Array Oper} {o : Oper} {s : St} {K : AV × Rs → Tr α} (h : (oneC0 P x clc ops o s K).ev = some r) : ∃ q, oneR0 P x cl ops o s = some q ∧ (K q).ev = some r := by
  unfold oneC0 at h
  obtain ⟨b, h1, h2⟩ := wantedC_ok h s.pa
  unfold oneR0
  rw [h1]
  cases b
  · exact ⟨_, rfl, h2⟩
  · simp only at h2 ⊢
    obtain ⟨out, h3, h4⟩ := aopC_ok h2
    rw [h3]
    obtain ⟨act, h', pa', ob', d⟩ := out
    cases act with
    | val r' =>
      simp only at h4 ⊢
      split at h4
      · rename_i hs; rw [if_pos hs]; rw [fW_eq] at h4; exact ⟨_, rfl, h4⟩
      · cases h4
    | skip => exact ⟨_, rfl, h4⟩
    | enter f args =>
      simp only at h4 ⊢
      split at h4
      · rename_i hs
        rw [if_pos hs]
        obtain ⟨⟨r', h'', pa'', ob'', d''⟩, h5, h6⟩ := hcl _ _ _ _ _ _ h4
        rw [h5]
        simp only at h6 ⊢
        split at h6
        · rename_i hs2; rw [if_pos hs2]; rw [fW_eq] at h6; exact ⟨_, rfl, h6⟩
        · cases h6
      · cases h4
theorem oneC_ok {cl : Cl} {clc : ClC α} (hcl : ClT cl clc) {ops : Array Oper} {o : Oper} {s : St} {K : AV × Rs → Tr α} (h : (oneC P x clc ops o s K).ev = some r) : ∃ q, oneR P x cl ops o s = some q ∧ (K q).ev = some r :=
  oneC0_ok hcl (settleC_ok (settleC_ok h))
theorem runC_ok {cl : Cl} {clc : ClC α} (hcl : ClT cl clc) {ops : Array Oper} : ∀ (l : List Oper) (s : St) (K : Rs → Tr α), (runC P x clc ops l s K).ev = some r → ∃ q, runA P x cl ops l s = some q ∧ (K q).ev = some r
  | [], s, K, h => ⟨_, rfl, h⟩
  | o :: l, s, K, h => by
    unfold runC at h
    obtain ⟨⟨v, rs⟩, h1, h2⟩ := oneC_ok hcl h
    obtain ⟨rs', h3, h4⟩ := runC_ok hcl l rs.s _ h2
    unfold runA oneA
    simp only [h1, h3]
    exact ⟨_, rfl, h4⟩
theorem snapsC_ok {cl : Cl} {clc : ClC α} (hcl : ClT cl clc) {ops : Array Oper} : ∀ (l : List Oper) (s : St) (K : List Sn × St → Tr α), (snapsC P x clc ops l s K).ev = some r → ∃ q, snaps P x cl ops l s = some q ∧ (K q).ev = some r
  | [], s, K, h => ⟨_, rfl, h⟩
  | o :: l, s, K, h => by
    unfold snapsC at h
    obtain ⟨⟨v, rs⟩, h1, h2⟩ := oneC_ok hcl h
    obtain ⟨⟨L, z⟩, h3, h4⟩ := snapsC_ok hcl l _ _ h2
    unfold snaps
    simp only at h3
    simp only [h1, h3]
    exact ⟨_, rfl, h4⟩
def DrT (dr : Dr) (drc : DrC α) : Prop := ∀ (cl : Cl) (clc : ClC α) ops s K r, ClT cl clc → (drc clc ops s K).ev = some r → ∃ q, dr cl ops s = some q ∧ (K q).ev = some r
theorem drawnC_ok : DrT (drawnA P x) (drawnC (α := α) P x) := by
  intro cl clc ops s K r hcl h
  unfold drawnC at h
  unfold drawnA
  split at h
  · rename_i hc
    rw [if_pos hc]
    obtain ⟨⟨L, z⟩, h1, h2⟩ := snapsC_ok hcl _ _ _ h
    rw [h1]
    simp only at h2 ⊢
    split at h2
    · rename_i hk; rw [if_pos hk]; exact ⟨_, rfl, h2⟩
    · cases h2
  · cases h
theorem backC_ok {n : Nat} {v : AV} {h' : List Blk} {pa : List Nat} {ob : List Bool} {d : List Nat} {K : (AV × List Blk × List Nat × List Bool × List Nat) → Tr α} (h : (backC n v h' pa ob d K).ev = some r) : ∃ q, backA n v h' pa ob d = some q ∧ (K q).ev = some r := by
  unfold backC at h
  unfold backA
  split at h
  · rename_i hc
    rw [if_pos hc]
    simp only [fAV_eq, fH_eq] at h ⊢
    exact ⟨_, rfl, h⟩
  · rename_i hc
    rw [if_neg hc]
    simp only [fAV_eq, fH_eq] at h ⊢
    exact ⟨_, rfl, h⟩
theorem callC_ok {orc : Orc} {orcc : OrcC α} {ex : Exec} {exc : ExC α} (hor : OrT orc orcc) (hex : ExT ex exc) : ClT (callB P orc ex) (callC P orcc exc) := by
  intro f args h pa K r hr
  unfold callC at hr
  unfold callB
  split at hr
  · rename_i t ht
    obtain ⟨q, h1, h2⟩ := (hor f args h).1 t ht _ _ hr
    rw [h1]
    simp only at h2 ⊢
    split at h2
    · rename_i hs
      rw [if_pos hs]
      simp only [fAV_eq] at h2 ⊢
      exact ⟨_, rfl, h2⟩
    · cases h2
  · rename_i hn
    rw [(hor f args h).2 hn]
    simp only
    split at hr
    · rename_i fn hf
      rw [hf]
      simp only
      split at hr
      · rename_i c hc
        rw [hc]
        simp only
        obtain ⟨⟨y, s', ob, d⟩, h1, h2⟩ := hex _ _ _ _ hr
        rw [h1]
        simp only at h2 ⊢
        split at h2
        · rename_i hy
          rw [if_pos hy]
          split at h2
          · rename_i v hv
            rw [hv]
            simp only
            split at h2
            · rename_i hl
              rw [if_pos hl]
              exact backC_ok h2
            · cases h2
          · cases h2
        · cases h2
      · cases hr
    · cases hr
theorem execC_ok {orc : Orc} {orcc : OrcC α} {dr : Dr} {drc : DrC α} (hor : OrT orc orcc) (hdr : DrT dr drc) : ∀ n, ExT (exec P x orc dr n) (execC P x orcc drc n)
  | 0 => fun c s K r h => by cases h
  | n + 1 => fun c s K r h => by
    have ih := execC_ok hor hdr n
    have hcl := callC_ok (P := P) hor ih
    cases c with
    | skip => exact ⟨_, rfl, h⟩
    | seq a b =>
      simp only [execC] at h
      obtain ⟨⟨y, s1, o1, d1⟩, h1, h2⟩ := ih _ _ _ _ h
      simp only [exec, h1]
      cases y with
      | normal =>
        simp only at h2 ⊢
        obtain ⟨⟨y2, s2, o2, d2⟩, h3, h4⟩ := ih _ _ _ _ h2
        rw [h3]
        exact ⟨_, rfl, h4⟩
      | exit id => exact ⟨_, rfl, h2⟩
      | ret => exact ⟨_, rfl, h2⟩
    | cond c a b =>
      simp only [execC] at h
      obtain ⟨t, h1, h2⟩ := decT_ok (settleC_ok h) s.pa
      obtain ⟨⟨y2, s2, o2, d2⟩, h3, h4⟩ := ih _ _ _ _ h2
      simp only [exec, h1, h3]
      exact ⟨_, rfl, h4⟩
    | block id c =>
      simp only [execC] at h
      obtain ⟨⟨y, s1, o1, d1⟩, h1, h2⟩ := ih _ _ _ _ h
      simp only [exec, h1]
      cases y with
      | normal => exact ⟨_, rfl, h2⟩
      | exit id' =>
        simp only at h2 ⊢
        split at h2
        · rename_i he; rw [if_pos he]; exact ⟨_, rfl, h2⟩
        · rename_i he; rw [if_neg he]; exact ⟨_, rfl, h2⟩
      | ret => exact ⟨_, rfl, h2⟩
    | loop c =>
      simp only [execC] at h
      obtain ⟨⟨y, s1, o1, d1⟩, h1, h2⟩ := ih _ _ _ _ h
      simp only [exec, h1]
      cases y with
      | normal =>
        simp only at h2 ⊢
        obtain ⟨⟨y2, s2, o2, d2⟩, h3, h4⟩ := ih _ _ _ _ h2
        rw [h3]
        exact ⟨_, rfl, h4⟩
      | exit id => exact ⟨_, rfl, h2⟩
      | ret => exact ⟨_, rfl, h2⟩
    | exit id => exact ⟨_, rfl, h⟩
    | scope c =>
      simp only [execC] at h
      obtain ⟨q, h1, h2⟩ := ih _ _ _ _ h
      simp only [exec]
      exact ⟨q, h1, h2⟩
    | ret => exact ⟨_, rfl, h⟩
    | region id ops mixed =>
      cases mixed with
      | false =>
        simp only [execC] at h
        simp only [exec]
        cases hd : deferA P x ops s with
        | some s1 =>
          rw [hd] at h
          exact ⟨_, rfl, h⟩
        | none =>
          rw [hd] at h
          obtain ⟨rs, h1, h2⟩ := runC_ok hcl _ _ _ h
          simp only [h1]
          simp only [fL_eq, fH_eq, fS_eq] at h2 ⊢
          exact ⟨_, rfl, h2⟩
      | true =>
        simp only [execC] at h
        obtain ⟨rs, h1, h2⟩ := hdr _ _ _ _ _ _ hcl h
        simp only [exec, h1]
        simp only [fL_eq, fH_eq, fS_eq] at h2 ⊢
        exact ⟨_, rfl, h2⟩
    | _ => cases h
end
end Go.Proofs.YtpfoifflfgiaoaaGreatDoor
namespace Go.Proofs.YtpfoifflfgiaoaaGreatDoor
open Go Go.RowKit Go.MapKept

/-- shapes: a truth value · a number of a kind · a literal one · one of some literal ones · parts -/
inductive Sh where
  | b
  | i (k : IntKind)
  | n (k : IntKind) (i : Int)
  | c (k : IntKind) (l : List Int)
  | a (l : List Sh)
  | t (l : List Sh)
def AV.items : AV → List AV
  | .a l => l
  | .t l => l
  | _ => []
def AV.item (x : AV) (j : Nat) : AV := (x.items[j]?).getD (.t [])
def getB : AV → Bool
  | .b x => x
  | .v (.bool x) => x
  | _ => false
theorem zero_in (k : IntKind) : k.min ≤ 0 ∧ 0 ≤ k.max := by cases k <;> decide
def getI (k : IntKind) (x : AV) : { i : Int // k.min ≤ i ∧ i ≤ k.max } := match ri x with
  | some r => if h : r.k = k then ⟨r.i, by rw [← h]; exact r.h⟩ else ⟨0, zero_in k⟩
  | none => ⟨0, zero_in k⟩
mutual
def fit : Sh → AV → Bool
  | .b, .b _ => true
  | .b, .v (.bool _) => true
  | .i k, .n k' i => decide (k' = k) && inR k i
  | .i k, .x k' _ => decide (k' = k)
  | .n k i, .n k' j => decide (k' = k) && (inR k i && decide (j = i))
  | .c k l, .n k' i => decide (k' = k) && (inR k i && l.contains i)
  | .a l, .a xs => fitL l xs
  | .t l, .t xs => fitL l xs
  | _, _ => false
def fitL : List Sh → List AV → Bool
  | [], [] => true
  | s :: l, x :: xs => fit s x && fitL l xs
  | _, _ => false
end
def pickC : List Int → Int → Int
  | [], _ => 0
  | [c], _ => c
  | c :: d :: l, i => if i == c then c else pickC (d :: l) i
mutual
/-- a value of a shape, brought to the shape's form -/
def rv : Sh → AV → AV
  | .b, x => .v (.bool (getB x))
  | .i k, x => .x k (getI k x)
  | .n k i, _ => .n k i
  | .c k l, x => .n k (pickC l (getI k x).1)
  | .a l, x => .a (rvL l x 0)
  | .t l, x => .t (rvL l x 0)
def rvL : List Sh → AV → Nat → List AV
  | [], _, _ => []
  | s :: l, x, j => rv s (x.item j) :: rvL l x (j + 1)
end
def casesK {α : Type} (k : IntKind) : List Int → Int → (AV → Tr α) → Tr α
  | [], _, _ => .fail
  | [c], _, K => K (.n k c)
  | c :: d :: l, i, K => .test (i == c) (K (.n k c)) (casesK k (d :: l) i K)
mutual
/-- the same; of some literal ones: each by itself -/
def rvK {α : Type} : Sh → AV → (AV → Tr α) → Tr α
  | .b, x, K => K (.v (.bool (getB x)))
  | .i k, x, K => K (.x k (getI k x))
  | .n k i, _, K => K (.n k i)
  | .c k l, x, K => casesK k l (getI k x).1 K
  | .a l, x, K => rvLK l x 0 fun y => K (.a y)
  | .t l, x, K => rvLK l x 0 fun y => K (.t y)
def rvLK {α : Type} : List Sh → AV → Nat → (List AV → Tr α) → Tr α
  | [], _, _, K => K []
  | s :: l, x, j, K => rvK s (x.item j) fun y => rvLK l x (j + 1) fun ys => K (y :: ys)
end
theorem casesK_ok {α : Type} {k : IntKind} {i : Int} {K : AV → Tr α} {r : α} : ∀ {l : List Int}, (casesK k l i K).ev = some r → (K (.n k (pickC l i))).ev = some r
  | [], h => by cases h
  | [c], h => h
  | c :: d :: l, h => by
    unfold casesK Tr.ev at h
    unfold pickC
    split at h
    · rename_i hc; rw [if_pos hc]; exact h
    · rename_i hc; rw [if_neg hc]; exact casesK_ok h
mutual
theorem rvK_ok {α : Type} {r : α} : ∀ (s : Sh) (x : AV) (K : AV → Tr α), (rvK s x K).ev = some r → (K (rv s x)).ev = some r
  | .b, x, K, h => h
  | .i k, x, K, h => h
  | .n k i, x, K, h => h
  | .c k l, x, K, h => casesK_ok h
  | .a l, x, K, h => rvLK_ok l x 0 _ h
  | .t l, x, K, h => rvLK_ok l x 0 _ h
theorem rvLK_ok {α : Type} {r : α} : ∀ (l : List Sh) (x : AV) (j : Nat) (K : List AV → Tr α), (rvLK l x j K).ev = some r → (K (rvL l x j)).ev = some r
  | [], x, j, K, h => h
  | s :: l, x, j, K, h => by
    unfold rvLK at h
    exact rvLK_ok l x (j + 1) _ (rvK_ok s (x.item j) _ h)
end
theorem pickC_mem {i : Int} : ∀ {l : List Int}, l.contains i = true → pickC l i = i
  | [], h => by cases h
  | [c], h => by
    simp only [List.contains_cons, List.contains_nil, Bool.or_false, beq_iff_eq] at h
    simp [pickC, h]
  | c :: d :: l, h => by
    unfold pickC
    split
    · rename_i hc; exact (beq_iff_eq.1 hc).symm
    · rename_i hc
      rw [List.contains_cons, Bool.or_eq_true] at h
      exact pickC_mem (h.resolve_left hc)
theorem getI_n {k : IntKind} {i : Int} (h : inR k i = true) : (getI k (.n k i)).1 = i := by simp [getI, ri, h]
mutual
theorem rv_den (e : Env) : ∀ (s : Sh) (x : AV), fit s x = true → (rv s x).den e = x.den e
  | .b, x, h => by
    unfold fit at h
    split at h <;> first | rfl | (rename_i hh; cases hh) | skip
    all_goals first | cases h | rfl | skip
    all_goals simp_all [rv, getB, AV.den]
  | .i k, x, h => by
    cases x <;> simp only [fit, Bool.and_eq_true, decide_eq_true_eq, reduceCtorEq, Bool.false_eq_true] at h
    · obtain ⟨rfl, h⟩ := h
      simp only [rv, AV.den, getI_n h]
    · subst h
      simp [rv, AV.den, getI, ri]
  | .n k i, x, h => by
    cases x <;> simp only [fit, Bool.and_eq_true, decide_eq_true_eq, reduceCtorEq, Bool.false_eq_true] at h
    obtain ⟨rfl, _, rfl⟩ := h
    rfl
  | .c k l, x, h => by
    cases x <;> simp only [fit, Bool.and_eq_true, decide_eq_true_eq, reduceCtorEq, Bool.false_eq_true] at h
    obtain ⟨rfl, h1, h2⟩ := h
    simp only [rv, AV.den, getI_n h1, pickC_mem h2]
  | .a l, x, h => by
    cases x <;> simp only [fit, reduceCtorEq, Bool.false_eq_true] at h
    rename_i xs
    simp only [rv, AV.den, rvL_den e l (.a xs) 0 xs (by simp [AV.items]) h]
  | .t l, x, h => by
    cases x <;> simp only [fit, reduceCtorEq, Bool.false_eq_true] at h
    rename_i xs
    simp only [rv, AV.den, rvL_den e l (.t xs) 0 xs (by simp [AV.items]) h]
theorem rvL_den (e : Env) : ∀ (l : List Sh) (x : AV) (j : Nat) (xs : List AV), x.items.drop j = xs → fitL l xs = true → denL e (rvL l x j) = denL e xs
  | [], x, j, xs, hx, h => by
    cases xs with
    | nil => rfl
    | cons y ys => simp [fitL] at h
  | s :: l, x, j, xs, hx, h => by
    cases xs with
    | nil => simp [fitL] at h
    | cons y ys =>
      simp only [fitL, Bool.and_eq_true] at h
      have h0 : x.items[j]? = some y := by
        have := List.getElem?_drop (xs := x.items) (i := j) (j := 0)
        rw [hx] at this
        simpa using this.symm
      have h1 : x.items.drop (j + 1) = ys := by
        rw [← List.drop_drop, hx]; rfl
      have h2 : x.item j = y := by simp [AV.item, h0]
      simp only [rvL, denL, h2, rv_den e s y h.1, rvL_den e l x (j + 1) ys h1 h.2]
end
mutual
theorem rv_sc (m : Nat → Bool) : ∀ (s : Sh) (x : AV), (rv s x).sc m = true
  | .b, _ | .i _, _ | .n _ _, _ | .c _ _, _ => rfl
  | .a l, x => rvL_sc m l x 0
  | .t l, x => rvL_sc m l x 0
theorem rvL_sc (m : Nat → Bool) : ∀ (l : List Sh) (x : AV) (j : Nat), scL m (rvL l x j) = true
  | [], _, _ => rfl
  | s :: l, x, j => by simp only [rvL, scL, rv_sc m s, rvL_sc m l, Bool.and_self]
end

/-! contracts out of shapes -/
abbrev Glob := List (Nat × List AV)
def hOf (G : Glob) : List Blk := G.map fun g => .ro g.1 g.2
def e0 : Env := ⟨fun _ => 0, fun _ => 0⟩
/-- the package-level variables G stand ahead of B, and hold what they hold -/
def GOk (G : Glob) (B : Nat) (w : World) : Prop := ∀ g ∈ G, g.1 < B ∧ ∀ (i : Nat) v, (denL e0 g.2)[i]? = some v → w.cell? ⟨g.1, i, none⟩ = some v
def litG (G : Glob) : Bool := G.all fun g => scL (fun _ => false) g.2
theorem GOk.below {G : Glob} {B : Nat} {W w : World} (h : GOk G B W) (hb : Below B W w) (hB : B ≤ w.heap.size) : GOk G w.heap.size w := fun g hg =>
  ⟨Nat.lt_of_lt_of_le (h g hg).1 hB, fun i v hv => by rw [World.cell?_of_block (w := W) (hb.block _ (h g hg).1)]; exact (h g hg).2 i v hv⟩
theorem sc_none {x : AV} (h : x.sc (fun _ => false) = true) (e e' : Env) : x.den e = x.den e' := AV.den_agr (m := fun _ => false) (fun _ h => by cases h) x h
theorem scL_none {l : List AV} (h : scL (fun _ => false) l = true) (e e' : Env) : denL e l = denL e' l := denL_agr (m := fun _ => false) (fun _ h => by cases h) l h
theorem GOk.sr {G : Glob} {w : World} (h : GOk G w.heap.size w) (hl : litG G = true) : SR ⟨fun k => ((G[k]?).map (·.1)).getD 0, fun _ => 0⟩ w.heap.size (hOf G) w := by
  have get : ∀ (k : Nat) (b : Blk), (hOf G)[k]? = some b → ∃ g : Nat × List AV, G[k]? = some g ∧ b = Blk.ro g.1 g.2 := fun k b hb => by
    simp only [hOf, List.getElem?_map, Option.map_eq_some_iff] at hb
    obtain ⟨g, h1, h2⟩ := hb
    exact ⟨g, h1, h2.symm⟩
  refine ⟨Nat.le_refl _, fun k b hb => ?_, fun k k' b b' hb hb' ho _ _ => ?_, fun k b hb => ?_⟩
  · obtain ⟨g, h1, rfl⟩ := get k b hb
    have hg := h g (List.mem_of_getElem? h1)
    simp only [BR, h1, Option.map_some, Option.getD_some]
    refine ⟨trivial, hg.1, fun i v hv => hg.2 i v ?_⟩
    rw [scL_none (List.all_eq_true.1 hl g (List.mem_of_getElem? h1)) e0 _]
    exact hv
  · obtain ⟨g, h1, h2⟩ := get k b hb
    subst h2
    cases ho
  · obtain ⟨g, h1, rfl⟩ := get k b hb
    simp only [Blk.sc]
    exact scL_mono (m := fun _ => false) (fun _ h => by cases h) _ (List.all_eq_true.1 hl g (List.mem_of_getElem? h1))
/-- f of args answers r, whatever the world -/
def Says (P : Program) (G : Glob) (f : FuncId) (args : List AV) (r : AV) : Prop := ∀ (e : Env) (w : World), GOk G w.heap.size w →
  Calls P f (denL e args).toArray w fun en w' => en = .returned (r.den e) ∧ Below w.heap.size w w'
abbrev Res := AV × List Blk × List Nat × List Bool × List Nat
/-- contracts, and as trees -/
structure Con where
  orc : Orc
  tree : OrcC Res
structure ConOk (P : Program) (G : Glob) (C : Con) : Prop where
  ok : ∀ B W, GOk G B W → OrcOk P B W C.orc
  tr : OrT C.orc C.tree
noncomputable def treeF (P : Program) (x : Ext) (C : Con) (n : Nat) (G : Glob) (f : FuncId) (args : List AV) : Tr Res :=
  callC P C.tree (execC P x C.tree (drawnC P x) n) f args (hOf G) [] .ret
theorem says {P : Program} {x : Ext} {C : Con} {n : Nat} {G : Glob} {f : FuncId} {args : List AV} {p : Res → Bool} (hx : ExtOk P x) (hn : NoNG P) (hl : litG G = true) (hC : ConOk P G C) (ha : scL (fun _ => false) args = true)
    (h : (treeF P x C n G f args).all (fun q => q.1.sc (fun _ => false) && q.2.2.2.1.all id && p q) = true) : ∃ q, p q = true ∧ (treeF P x C n G f args).ev = some q ∧ q.1.sc (fun _ => false) = true ∧ Says P G f args q.1 := by
  obtain ⟨q, h1, h2⟩ := Tr.all_ev h
  simp only [Bool.and_eq_true] at h2
  refine ⟨q, h2.2, h1, h2.1.1, fun e w hw => ?_⟩
  obtain ⟨q', h3, h4⟩ := callC_ok hC.tr (execC_ok (P := P) (x := x) hC.tr drawnC_ok n) _ _ _ _ _ _ h1
  obtain rfl : q' = q := Option.some.inj h4
  obtain ⟨r, h', pa, ob, d⟩ := q'
  have hB := hC.ok w.heap.size w hw
  have hcl := callB_ok (P := P) (B := w.heap.size) (W := w) hB (exec_ok (x := x) hx hn hB (drawn_ok hx hn) n).1
  have hc := hcl _ _ _ _ _ _ _ _ _ h3 (fun b hb => by have := List.all_eq_true.1 h2.1.2 b hb; exact this) _ w (hw.sr hl) (scL_mono (fun _ h => by cases h) _ ha) (Below.refl _ _)
  rw [scL_none ha e _]
  refine hc.mono ?_
  rintro en w' ⟨e', rfl, h5, h6⟩
  exact ⟨by rw [sc_none h2.1.1 e' e], h6.below⟩
/-- one more function: of arguments of a shape its answers' shape is known -/
noncomputable def sayR (P : Program) (G : Glob) (f : FuncId) (s : Sh) (args : List AV) : AV := Classical.epsilon fun r => fit s r = true ∧ r.sc (fun _ => false) = true ∧ Says P G f args r
noncomputable def Con.add (P : Program) (G : Glob) (C : Con) (f : FuncId) (l : List Sh) (s : Sh) : Con where
  orc := fun g args h => if g = f ∧ fitL l args = true then some (rv s (sayR P G f s (rvL l (.t args) 0)), []) else C.orc g args h
  tree := fun g args h => if g = f ∧ fitL l args = true then some fun K => rvK s (sayR P G f s (rvL l (.t args) 0)) K else C.tree g args h
/-- of arguments of the shapes l it answers something of the shape s -/
def Tot (P : Program) (G : Glob) (f : FuncId) (l : List Sh) (s : Sh) : Prop := ∀ a : AV, ∃ r, fit s r = true ∧ r.sc (fun _ => false) = true ∧ Says P G f (rvL l a 0) r
def okR (s : Sh) (q : Res) : Bool := q.1.sc (fun _ => false) && q.2.2.2.1.all id && fit s q.1
theorem tot_of {P : Program} {x : Ext} {C : Con} (n : Nat) {G : Glob} {f : FuncId} {l : List Sh} {s : Sh} (hx : ExtOk P x) (hn : NoNG P) (hl : litG G = true) (hC : ConOk P G C)
    (h : ∀ a : AV, (treeF P x C n G f (rvL l a 0)).all (okR s) = true) : Tot P G f l s := fun a => by
  obtain ⟨q, h1, _, h3, h4⟩ := says (p := fun q => fit s q.1) hx hn hl hC (rvL_sc _ l a 0) (h a)
  exact ⟨q.1, h1, h3, h4⟩
theorem ConOk.add {P : Program} {C : Con} {G : Glob} {f : FuncId} {l : List Sh} {s : Sh} (hC : ConOk P G C) (h : Tot P G f l s) : ConOk P G (C.add P G f l s) := by
  refine ⟨fun B W hW g args hp r ob hr ho e w hs hb => ?_, fun g args hp => ⟨fun t ht K r hr => ?_, fun hne => ?_⟩⟩
  · simp only [Con.add] at hr
    split at hr
    · rename_i hg
      simp only [Option.some.injEq, Prod.mk.injEq] at hr
      obtain ⟨rfl, rfl⟩ := hr
      have key := Classical.epsilon_spec (p := fun r => fit s r = true ∧ r.sc (fun _ => false) = true ∧ Says P G f (rvL l (.t args) 0) r) (h (.t args))
      have := key.2.2 e w (hW.below hb hs.size)
      rw [rvL_den e l (.t args) 0 args (by simp [AV.items]) hg.2] at this
      rw [hg.1]
      refine this.mono ?_
      rintro en w' ⟨rfl, hb'⟩
      exact ⟨by rw [show (rv s (sayR P G f s (rvL l (AV.t args) 0))).den e = _ from rv_den e s _ key.1]; rfl, hb'⟩
    · exact hC.ok B W hW g args hp r ob hr ho e w hs hb
  · simp only [Con.add] at ht ⊢
    split at ht
    · rename_i hg
      rw [if_pos hg]
      cases ht
      exact ⟨_, rfl, rvK_ok s _ K hr⟩
    · rename_i hg
      rw [if_neg hg]
      exact (hC.tr g args hp).1 t ht K r hr
  · simp only [Con.add] at hne ⊢
    split at hne
    · cases hne
    · rename_i hg
      rw [if_neg hg]
      exact (hC.tr g args hp).2 hne
end Go.Proofs.YtpfoifflfgiaoaaGreatDoor
