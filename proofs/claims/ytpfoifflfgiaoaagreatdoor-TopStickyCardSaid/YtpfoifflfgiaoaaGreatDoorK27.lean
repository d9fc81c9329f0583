/- table.Run of any entry. -/
import Derived.Test.YtpfoifflfgiaoaaGreatDoorK26
set_option linter.unusedVariables false
set_option linter.unusedSimpArgs false
namespace Go.Proofs.YtpfoifflfgiaoaaGreatDoor
open Go Go.RowKit Go.MapKept

/-- how many operands -/
def nOp (op : Int) : Nat := if op = 5 ∨ op = 8 ∨ op = 9 ∨ op = 10 ∨ op = 11 ∨ op = 12 then 1 else if op = 6 then 3 else 2
/-- 64 bits that are an integer of a kind -/
def HasP (to a0 : Int) : Prop := (to = 0 → a0 < 2147483648 ∨ 18446744071562067968 ≤ a0) ∧ (to = 1 → a0 < 4294967296)
/-- an entry that may be -/
def MayP (op f to m ti a1 a0 b1 b0 c1 c0 : Int) : Prop :=
  ((1 ≤ op ∧ op ≤ 14) ∧ f ≤ 3 ∧ m ≤ 4 ∧ ti ≤ 1 ∧ to ≤ 3) ∧ (to = 0 ∨ op = 10 ∨ op = 11 ∨ op = 12) ∧ (nOp op < 2 → b1 = 0 ∧ b0 = 0) ∧ (nOp op < 3 → c1 = 0 ∧ c0 = 0) ∧
  (op = 12 → a1 = 0 ∧ HasP to a0) ∧ (op ≠ 12 → fitsB f (val2 a0 a1) = true ∧ fitsB f (val2 b0 b1) = true ∧ fitsB f (val2 c0 c1) = true)
structure EntR (op f to m ti a1 a0 b1 b0 c1 c0 : Int) : Prop where
  op : 0 ≤ op ∧ op ≤ 255
  f : 0 ≤ f ∧ f ≤ 255
  to : 0 ≤ to ∧ to ≤ 255
  m : 0 ≤ m ∧ m ≤ 255
  ti : 0 ≤ ti ∧ ti ≤ 255
  a1 : U64 a1
  a0 : U64 a0
  b1 : U64 b1
  b0 : U64 b0
  c1 : U64 c1
  c0 : U64 c0
def entV (op f to m ti a1 a0 b1 b0 c1 c0 : Int) : AV := .a [.n .u8 op, .n .u8 f, .n .u8 to, .n .u8 m, .n .u8 ti, .n .u64 a1, .n .u64 a0, .n .u64 b1, .n .u64 b0, .n .u64 c1, .n .u64 c0]
theorem inR_u8 {i : Int} (h : 0 ≤ i ∧ i ≤ 255) : inR .u8 i = true := by simp [inR, h.1, h.2]
theorem inR_u64 {i : Int} (h : U64 i) : inR .u64 i = true := by
  have h1 := h.lo
  have h2 := h.le
  simp [inR, h1]; omega
theorem fits0 {f : Int} (h0 : 0 ≤ f) (h : f ≤ 3) : fitsB f (val2 0 0) = true := by
  have : f = 0 ∨ f = 1 ∨ f = 2 ∨ f = 3 := by omega
  rcases this with rfl | rfl | rfl | rfl <;> decide
theorem fit_num {k : IntKind} {x : AV} (h : fit (.i k) x = true) : ∃ i : Int, (k.min ≤ i ∧ i ≤ k.max) ∧ ∀ e, x.den e = .int k i := by
  cases x <;> simp only [fit, Bool.and_eq_true, decide_eq_true_eq, reduceCtorEq, Bool.false_eq_true] at h
  · obtain ⟨rfl, h⟩ := h
    exact ⟨_, inR_ok h, fun e => rfl⟩
  · subst h
    rename_i i
    exact ⟨i.1, i.2, fun e => rfl⟩
/-- what Run answers of an entry -/
def RunsTo (op f to m ti a1 a0 b1 b0 c1 c0 : Int) : Prop := ∃ E x y z : Int, Says Tryz.prog G0 5 [entV op f to m ti a1 a0 b1 b0 c1 c0] (.a [.n .i64 E, .n .u64 x, .n .u64 y, .n .u8 z]) ∧ U64 x ∧ U64 y ∧ (0 ≤ z ∧ z ≤ 255) ∧
  ((E = 0 ∧ MayP op f to m ti a1 a0 b1 b0 c1 c0) ∨ (E = 1 ∧ ¬ MayP op f to m ti a1 a0 b1 b0 c1 c0 ∧ x = 0 ∧ y = 0 ∧ z = 0))
section
variable {op f to m ti a1 a0 b1 b0 c1 c0 : Int}
theorem runs_bad {l : List AV} (hd : ∀ e, denL e [entV op f to m ti a1 a0 b1 b0 c1 c0] = denL e l) (h : Says Tryz.prog G0 5 l (.a [.n .i64 1, .n .u64 0, .n .u64 0, .n .u8 0])) (hm : ¬ MayP op f to m ti a1 a0 b1 b0 c1 c0) : RunsTo op f to m ti a1 a0 b1 b0 c1 c0 :=
  ⟨1, 0, 0, 0, h.congr hd fun e => rfl, u64_zero, u64_zero, by decide, .inr ⟨rfl, hm, rfl, rfl, rfl⟩⟩
theorem runs_of {l : List AV} {L p : List Bool} (hd : ∀ e, denL e [entV op f to m ti a1 a0 b1 b0 c1 c0] = denL e l) (h : Ran l L p) (hm : L = p ↔ MayP op f to m ti a1 a0 b1 b0 c1 c0) : RunsTo op f to m ti a1 a0 b1 b0 c1 c0 := by
  obtain ⟨r, h1, h2, h3⟩ := h
  by_cases he : L = p
  · obtain ⟨x, y, z, rfl, hx, hy, hz⟩ := h2 he
    obtain ⟨i, ri, ei⟩ := fit_num hx
    obtain ⟨j, rj, ej⟩ := fit_num hy
    obtain ⟨k, rk, ek⟩ := fit_num hz
    exact ⟨0, i, j, k, h1.congr hd fun e => by simp only [AV.den, denL, ei, ej, ek], u64_of ri rfl, u64_of rj rfl, u8_of rk rfl, .inl ⟨rfl, hm.1 he⟩⟩
  · have := h3 he
    subst this
    exact runs_bad hd h1 fun hmm => he (hm.2 hmm)
/-- the arguments, as the evaluator takes them -/
def mkA (op f to m ti a1 a0 b1 b0 c1 c0 : Int) : AV := .t [entV op f to m ti a1 a0 b1 b0 c1 c0]
theorem mk_nums (h : EntR op f to m ti a1 a0 b1 b0 c1 c0) : eOp (mkA op f to m ti a1 a0 b1 b0 c1 c0) = op ∧ eF (mkA op f to m ti a1 a0 b1 b0 c1 c0) = f ∧ eTo (mkA op f to m ti a1 a0 b1 b0 c1 c0) = to ∧ eM (mkA op f to m ti a1 a0 b1 b0 c1 c0) = m ∧ eTi (mkA op f to m ti a1 a0 b1 b0 c1 c0) = ti ∧
    eW (mkA op f to m ti a1 a0 b1 b0 c1 c0) 0 = a1 ∧ eW (mkA op f to m ti a1 a0 b1 b0 c1 c0) 1 = a0 ∧ eW (mkA op f to m ti a1 a0 b1 b0 c1 c0) 2 = b1 ∧ eW (mkA op f to m ti a1 a0 b1 b0 c1 c0) 3 = b0 ∧ eW (mkA op f to m ti a1 a0 b1 b0 c1 c0) 4 = c1 ∧ eW (mkA op f to m ti a1 a0 b1 b0 c1 c0) 5 = c0 :=
  ⟨getI_n (inR_u8 h.op), getI_n (inR_u8 h.f), getI_n (inR_u8 h.to), getI_n (inR_u8 h.m), getI_n (inR_u8 h.ti), getI_n (inR_u64 h.a1), getI_n (inR_u64 h.a0), getI_n (inR_u64 h.b1), getI_n (inR_u64 h.b0), getI_n (inR_u64 h.c1), getI_n (inR_u64 h.c0)⟩
theorem den_any (h : EntR op f to m ti a1 a0 b1 b0 c1 c0) (e : Env) : denL e [entV op f to m ti a1 a0 b1 b0 c1 c0] = denL e (rvL shAny (mkA op f to m ti a1 a0 b1 b0 c1 c0) 0) := by
  obtain ⟨g0, g1, g2, g3, g4, g5, g6, g7, g8, g9, g10⟩ := mk_nums h
  unfold eOp at g0; unfold eF at g1; unfold eTo at g2; unfold eM at g3; unfold eTi at g4; unfold eW at g5 g6 g7 g8 g9 g10
  simp only [shAny, rvL, rv, denL, AV.den, entV, Nat.zero_add, Nat.reduceAdd] at *
  rw [g0, g1, g2, g3, g4, g5, g6, g7, g8, g9, g10]
theorem den_ent (h : EntR op f to m ti a1 a0 b1 b0 c1 c0) (o : Int) (ho : op = o) (e : Env) : denL e [entV op f to m ti a1 a0 b1 b0 c1 c0] = denL e (rvL (shEnt o (.i .u8)) (mkA op f to m ti a1 a0 b1 b0 c1 c0) 0) := by
  obtain ⟨g0, g1, g2, g3, g4, g5, g6, g7, g8, g9, g10⟩ := mk_nums h
  unfold eOp at g0; unfold eF at g1; unfold eTo at g2; unfold eM at g3; unfold eTi at g4; unfold eW at g5 g6 g7 g8 g9 g10
  simp only [shEnt, rvL, rv, denL, AV.den, entV, Nat.zero_add, Nat.reduceAdd] at *
  rw [g1, g2, g3, g4, g5, g6, g7, g8, g9, g10, ho]
theorem den_entk (h : EntR op f to m ti a1 a0 b1 b0 c1 c0) (o k : Int) (ho : op = o) (hk : to = k) (e : Env) : denL e [entV op f to m ti a1 a0 b1 b0 c1 c0] = denL e (rvL (shEnt o (.n .u8 k)) (mkA op f to m ti a1 a0 b1 b0 c1 c0) 0) := by
  obtain ⟨g0, g1, g2, g3, g4, g5, g6, g7, g8, g9, g10⟩ := mk_nums h
  unfold eOp at g0; unfold eF at g1; unfold eTo at g2; unfold eM at g3; unfold eTi at g4; unfold eW at g5 g6 g7 g8 g9 g10
  simp only [shEnt, rvL, rv, denL, AV.den, entV, Nat.zero_add, Nat.reduceAdd] at *
  rw [g1, g3, g4, g5, g6, g7, g8, g9, g10, ho, hk]
theorem known_iff {x : Int} (h : 0 ≤ x ∧ x ≤ 255) : wrapF .i64 x < 4 ↔ x ≤ 3 := by
  show (x + 9223372036854775808) % 18446744073709551616 - 9223372036854775808 < 4 ↔ _
  omega
theorem has0 (h : U64 a0) : wrapF .u64 (wrapF .i64 (wrapF .i32 a0)) = a0 ↔ (a0 < 2147483648 ∨ 18446744071562067968 ≤ a0) := by
  have h1 := h.lo
  have h2 := h.le
  show (((a0 + 2147483648) % 4294967296 - 2147483648 + 9223372036854775808) % 18446744073709551616 - 9223372036854775808) % 18446744073709551616 = a0 ↔ _
  omega
theorem has1 (h : U64 a0) : wrapF .u64 (wrapF .u32 a0) = a0 ↔ a0 < 4294967296 := by
  have h1 := h.lo
  have h2 := h.le
  show a0 % 4294967296 % 18446744073709551616 = a0 ↔ _
  omega
theorem iff_two (h : EntR op f to m ti a1 a0 b1 b0 c1 c0) (ho : nOp op = 2) (h12 : op ≠ 12) (hr : 1 ≤ op ∧ op ≤ 14) (ht : ¬ (op = 10 ∨ op = 11 ∨ op = 12)) :
    ([!(decide (wrapF .i64 f < 4)), !(decide (m ≤ 4)), decide (ti > 1), !(to == 0), fitsB f (val2 a0 a1), fitsB f (val2 b0 b1), !(((c1 == 0) && ((c0 == 0) && true)))] = [false, false, false, false, true, true, false]) ↔ MayP op f to m ti a1 a0 b1 b0 c1 c0 := by
  simp only [List.cons.injEq, Bool.not_eq_false', decide_eq_true_eq, decide_eq_false_iff_not, beq_iff_eq, Bool.and_eq_true, and_true, Bool.and_true, known_iff h.f, MayP, ho]
  constructor
  · rintro ⟨g1, g2, g3, g4, g5, g6, g7, g8⟩
    refine ⟨⟨hr, g1, g2, by omega, by omega⟩, .inl g4, fun hh => by omega, fun _ => ⟨g7, g8⟩, fun hh => absurd hh h12, fun _ => ⟨g5, g6, ?_⟩⟩
    rw [g7, g8]; exact fits0 h.f.1 g1
  · rintro ⟨⟨_, g1, g2, g3, g4⟩, g5, g6, g7, g8, g9⟩
    obtain ⟨k1, k2⟩ := g7 (by omega)
    obtain ⟨k3, k4, _⟩ := g9 h12
    exact ⟨g1, g2, by omega, g5.resolve_right ht, k3, k4, k1, k2⟩
theorem iff_three (h : EntR op f to m ti a1 a0 b1 b0 c1 c0) (ho : nOp op = 3) (h12 : op ≠ 12) (hr : 1 ≤ op ∧ op ≤ 14) (ht : ¬ (op = 10 ∨ op = 11 ∨ op = 12)) :
    ([!(decide (wrapF .i64 f < 4)), !(decide (m ≤ 4)), decide (ti > 1), !(to == 0), fitsB f (val2 a0 a1), fitsB f (val2 b0 b1), !(fitsB f (val2 c0 c1))] = [false, false, false, false, true, true, false]) ↔ MayP op f to m ti a1 a0 b1 b0 c1 c0 := by
  simp only [List.cons.injEq, Bool.not_eq_false', decide_eq_true_eq, decide_eq_false_iff_not, beq_iff_eq, Bool.and_eq_true, and_true, Bool.and_true, known_iff h.f, MayP, ho]
  constructor
  · rintro ⟨g1, g2, g3, g4, g5, g6, g7⟩
    exact ⟨⟨hr, g1, g2, by omega, by omega⟩, .inl g4, fun hh => by omega, fun hh => by omega, fun hh => absurd hh h12, fun _ => ⟨g5, g6, g7⟩⟩
  · rintro ⟨⟨_, g1, g2, g3, g4⟩, g5, g6, g7, g8, g9⟩
    obtain ⟨k3, k4, k5⟩ := g9 h12
    exact ⟨g1, g2, by omega, g5.resolve_right ht, k3, k4, k5⟩
theorem iff_one (h : EntR op f to m ti a1 a0 b1 b0 c1 c0) (ho : nOp op = 1) (h12 : op ≠ 12) (hr : 1 ≤ op ∧ op ≤ 14) (ht : ¬ (op = 10 ∨ op = 11 ∨ op = 12)) :
    ([!(decide (wrapF .i64 f < 4)), !(decide (m ≤ 4)), decide (ti > 1), !(to == 0), fitsB f (val2 a0 a1), ((b1 == 0) && ((b0 == 0) && true)), !(((c1 == 0) && ((c0 == 0) && true)))] = [false, false, false, false, true, true, false]) ↔ MayP op f to m ti a1 a0 b1 b0 c1 c0 := by
  simp only [List.cons.injEq, Bool.not_eq_false', decide_eq_true_eq, decide_eq_false_iff_not, beq_iff_eq, Bool.and_eq_true, and_true, Bool.and_true, known_iff h.f, MayP, ho]
  constructor
  · rintro ⟨g1, g2, g3, g4, g5, ⟨g6, g6'⟩, g7, g8⟩
    refine ⟨⟨hr, g1, g2, by omega, by omega⟩, .inl g4, fun _ => ⟨g6, g6'⟩, fun _ => ⟨g7, g8⟩, fun hh => absurd hh h12, fun _ => ⟨g5, ?_, ?_⟩⟩
    · rw [g6, g6']; exact fits0 h.f.1 g1
    · rw [g7, g8]; exact fits0 h.f.1 g1
  · rintro ⟨⟨_, g1, g2, g3, g4⟩, g5, g6, g7, g8, g9⟩
    obtain ⟨k1, k2⟩ := g7 (by omega)
    obtain ⟨k1', k2'⟩ := g6 (by omega)
    obtain ⟨k3, k4, _⟩ := g9 h12
    exact ⟨g1, g2, by omega, g5.resolve_right ht, k3, ⟨k1', k2'⟩, k1, k2⟩
theorem iff_conv (h : EntR op f to m ti a1 a0 b1 b0 c1 c0) (ho : op = 10) :
    ([!(decide (wrapF .i64 f < 4)), !(decide (m ≤ 4)), decide (ti > 1), !(decide (wrapF .i64 to < 4)), fitsB f (val2 a0 a1), ((b1 == 0) && ((b0 == 0) && true)), !(((c1 == 0) && ((c0 == 0) && true)))] = [false, false, false, false, true, true, false]) ↔ MayP op f to m ti a1 a0 b1 b0 c1 c0 := by
  have h1 : nOp op = 1 := by rw [ho]; decide
  have h12 : op ≠ 12 := by omega
  simp only [List.cons.injEq, Bool.not_eq_false', decide_eq_true_eq, decide_eq_false_iff_not, beq_iff_eq, Bool.and_eq_true, and_true, Bool.and_true, known_iff h.f, known_iff h.to, MayP, h1]
  constructor
  · rintro ⟨g1, g2, g3, g4, g5, ⟨g6, g6'⟩, g7, g8⟩
    refine ⟨⟨by omega, g1, g2, by omega, by omega⟩, .inr (.inl ho), fun _ => ⟨g6, g6'⟩, fun _ => ⟨g7, g8⟩, fun hh => absurd hh h12, fun _ => ⟨g5, ?_, ?_⟩⟩
    · rw [g6, g6']; exact fits0 h.f.1 g1
    · rw [g7, g8]; exact fits0 h.f.1 g1
  · rintro ⟨⟨_, g1, g2, g3, g4⟩, g5, g6, g7, g8, g9⟩
    obtain ⟨k1, k2⟩ := g7 (by omega)
    obtain ⟨k1', k2'⟩ := g6 (by omega)
    obtain ⟨k3, k4, _⟩ := g9 h12
    exact ⟨g1, g2, by omega, g4, k3, ⟨k1', k2'⟩, k1, k2⟩
theorem iff_int (h : EntR op f to m ti a1 a0 b1 b0 c1 c0) (ho : op = 11) (ht : to ≤ 3) :
    ([!(decide (wrapF .i64 f < 4)), !(decide (m ≤ 4)), decide (ti > 1), fitsB f (val2 a0 a1), ((b1 == 0) && ((b0 == 0) && true)), !(((c1 == 0) && ((c0 == 0) && true)))] = [false, false, false, true, true, false]) ↔ MayP op f to m ti a1 a0 b1 b0 c1 c0 := by
  have h1 : nOp op = 1 := by rw [ho]; decide
  have h12 : op ≠ 12 := by omega
  simp only [List.cons.injEq, Bool.not_eq_false', decide_eq_true_eq, decide_eq_false_iff_not, beq_iff_eq, Bool.and_eq_true, and_true, Bool.and_true, known_iff h.f, MayP, h1]
  constructor
  · rintro ⟨g1, g2, g3, g5, ⟨g6, g6'⟩, g7, g8⟩
    refine ⟨⟨by omega, g1, g2, by omega, ht⟩, .inr (.inr (.inl ho)), fun _ => ⟨g6, g6'⟩, fun _ => ⟨g7, g8⟩, fun hh => absurd hh h12, fun _ => ⟨g5, ?_, ?_⟩⟩
    · rw [g6, g6']; exact fits0 h.f.1 g1
    · rw [g7, g8]; exact fits0 h.f.1 g1
  · rintro ⟨⟨_, g1, g2, g3, g4⟩, g5, g6, g7, g8, g9⟩
    obtain ⟨k1, k2⟩ := g7 (by omega)
    obtain ⟨k1', k2'⟩ := g6 (by omega)
    obtain ⟨k3, k4, _⟩ := g9 h12
    exact ⟨g1, g2, by omega, k3, ⟨k1', k2'⟩, k1, k2⟩
theorem iff_from {t : Bool} (h : EntR op f to m ti a1 a0 b1 b0 c1 c0) (ho : op = 12) (ht : to ≤ 3) (hh : t = true ↔ HasP to a0) :
    ([!(decide (wrapF .i64 f < 4)), !(decide (m ≤ 4)), decide (ti > 1), (a1 == 0), t, ((b1 == 0) && ((b0 == 0) && true)), !(((c1 == 0) && ((c0 == 0) && true)))] = [false, false, false, true, true, true, false]) ↔ MayP op f to m ti a1 a0 b1 b0 c1 c0 := by
  have h1 : nOp op = 1 := by rw [ho]; decide
  simp only [List.cons.injEq, Bool.not_eq_false', decide_eq_true_eq, decide_eq_false_iff_not, beq_iff_eq, Bool.and_eq_true, and_true, Bool.and_true, known_iff h.f, MayP, h1, hh]
  constructor
  · rintro ⟨g1, g2, g3, g5, g5', ⟨g6, g6'⟩, g7, g8⟩
    exact ⟨⟨by omega, g1, g2, by omega, ht⟩, .inr (.inr (.inr ho)), fun _ => ⟨g6, g6'⟩, fun _ => ⟨g7, g8⟩, fun _ => ⟨g5, g5'⟩, fun hn => absurd ho hn⟩
  · rintro ⟨⟨_, g1, g2, g3, g4⟩, g5, g6, g7, g8, g9⟩
    obtain ⟨k1, k2⟩ := g7 (by omega)
    obtain ⟨k1', k2'⟩ := g6 (by omega)
    obtain ⟨k3, k4⟩ := g8 ho
    exact ⟨g1, g2, by omega, k3, k4, ⟨k1', k2'⟩, k1, k2⟩
theorem run_any (h : EntR op f to m ti a1 a0 b1 b0 c1 c0) : RunsTo op f to m ti a1 a0 b1 b0 c1 c0 := by
  obtain ⟨g0, g1, g2, g3, g4, g5, g6, g7, g8, g9, g10⟩ := mk_nums h
  by_cases hop : op < 1 ∨ 14 < op
  · refine runs_bad (den_any h) (run_none _ (by rw [g0]; exact hop)) fun hm => ?_
    have := hm.1.1
    omega
  have hop' : 1 ≤ op ∧ op ≤ 14 := by omega
  clear hop
  have split14 : op = 1 ∨ op = 2 ∨ op = 3 ∨ op = 4 ∨ op = 5 ∨ op = 6 ∨ op = 7 ∨ op = 8 ∨ op = 9 ∨ op = 10 ∨ op = 11 ∨ op = 12 ∨ op = 13 ∨ op = 14 := by omega
  have kinds : (4 : Int) ≤ to ∨ to = 0 ∨ to = 1 ∨ to = 2 ∨ to = 3 := by have := h.to; omega
  have bad4 : (op = 11 ∨ op = 12) → 4 ≤ to → RunsTo op f to m ti a1 a0 b1 b0 c1 c0 := fun ho h4 => runs_bad (den_ent h op rfl) (kind_none op ho _ (by rw [g2]; exact h4)) fun hm => by
    have := hm.1.2.2.2.2
    omega
  rcases split14 with ho | ho | ho | ho | ho | ho | ho | ho | ho | ho | ho | ho | ho | ho
  · refine runs_of (den_ent h 1 ho) (run1 _) ?_
    unfold tests1; rw [g1, g3, g4, g2, g5, g6, g7, g8, g9, g10]
    exact iff_two h (by rw [ho]; decide) (by omega) hop' (by omega)
  · refine runs_of (den_ent h 2 ho) (run2 _) ?_
    unfold tests2; rw [g1, g3, g4, g2, g5, g6, g7, g8, g9, g10]
    exact iff_two h (by rw [ho]; decide) (by omega) hop' (by omega)
  · refine runs_of (den_ent h 3 ho) (run3 _) ?_
    unfold tests3; rw [g1, g3, g4, g2, g5, g6, g7, g8, g9, g10]
    exact iff_two h (by rw [ho]; decide) (by omega) hop' (by omega)
  · refine runs_of (den_ent h 4 ho) (run4 _) ?_
    unfold tests4; rw [g1, g3, g4, g2, g5, g6, g7, g8, g9, g10]
    exact iff_two h (by rw [ho]; decide) (by omega) hop' (by omega)
  · refine runs_of (den_ent h 5 ho) (run5 _) ?_
    unfold tests5; rw [g1, g3, g4, g2, g5, g6, g7, g8, g9, g10]
    exact iff_one h (by rw [ho]; decide) (by omega) hop' (by omega)
  · refine runs_of (den_ent h 6 ho) (run6 _) ?_
    unfold tests6; rw [g1, g3, g4, g2, g5, g6, g7, g8, g9, g10]
    exact iff_three h (by rw [ho]; decide) (by omega) hop' (by omega)
  · refine runs_of (den_ent h 7 ho) (run7 _) ?_
    unfold tests7; rw [g1, g3, g4, g2, g5, g6, g7, g8, g9, g10]
    exact iff_two h (by rw [ho]; decide) (by omega) hop' (by omega)
  · refine runs_of (den_ent h 8 ho) (run8 _) ?_
    unfold tests8; rw [g1, g3, g4, g2, g5, g6, g7, g8, g9, g10]
    exact iff_one h (by rw [ho]; decide) (by omega) hop' (by omega)
  · refine runs_of (den_ent h 9 ho) (run9 _) ?_
    unfold tests9; rw [g1, g3, g4, g2, g5, g6, g7, g8, g9, g10]
    exact iff_one h (by rw [ho]; decide) (by omega) hop' (by omega)
  · refine runs_of (den_ent h 10 ho) (run10 _) ?_
    unfold tests10; rw [g1, g3, g4, g2, g5, g6, g7, g8, g9, g10]
    exact iff_conv h ho
  · rcases kinds with h4 | ht | ht | ht | ht
    · exact bad4 (.inl ho) h4
    · refine runs_of (den_entk h 11 0 ho ht) (run11_0 _) ?_
      unfold tests11_0; rw [g1, g3, g4, g5, g6, g7, g8, g9, g10]
      exact iff_int h ho (by omega)
    · refine runs_of (den_entk h 11 1 ho ht) (run11_1 _) ?_
      unfold tests11_1; rw [g1, g3, g4, g5, g6, g7, g8, g9, g10]
      exact iff_int h ho (by omega)
    · refine runs_of (den_entk h 11 2 ho ht) (run11_2 _) ?_
      unfold tests11_2; rw [g1, g3, g4, g5, g6, g7, g8, g9, g10]
      exact iff_int h ho (by omega)
    · refine runs_of (den_entk h 11 3 ho ht) (run11_3 _) ?_
      unfold tests11_3; rw [g1, g3, g4, g5, g6, g7, g8, g9, g10]
      exact iff_int h ho (by omega)
  · rcases kinds with h4 | ht | ht | ht | ht
    · exact bad4 (.inr ho) h4
    · refine runs_of (den_entk h 12 0 ho ht) (run12_0 _) ?_
      unfold tests12_0; rw [g1, g3, g4, g5, g6, g7, g8, g9, g10]
      exact iff_from h ho (by omega) (by rw [beq_iff_eq, has0 h.a0]; unfold HasP; rw [ht]; simp)
    · refine runs_of (den_entk h 12 1 ho ht) (run12_1 _) ?_
      unfold tests12_1; rw [g1, g3, g4, g5, g6, g7, g8, g9, g10]
      exact iff_from h ho (by omega) (by rw [beq_iff_eq, has1 h.a0]; unfold HasP; rw [ht]; simp)
    · refine runs_of (den_entk h 12 2 ho ht) (run12_2 _) ?_
      unfold tests12_2; rw [g1, g3, g4, g5, g6, g7, g8, g9, g10]
      exact iff_from h ho (by omega) (by unfold HasP; rw [ht]; simp)
    · refine runs_of (den_entk h 12 3 ho ht) (run12_3 _) ?_
      unfold tests12_3; rw [g1, g3, g4, g5, g6, g7, g8, g9, g10]
      exact iff_from h ho (by omega) (by unfold HasP; rw [ht]; simp)
  · refine runs_of (den_ent h 13 ho) (run13 _) ?_
    unfold tests13; rw [g1, g3, g4, g2, g5, g6, g7, g8, g9, g10]
    exact iff_two h (by rw [ho]; decide) (by omega) hop' (by omega)
  · refine runs_of (den_ent h 14 ho) (run14 _) ?_
    unfold tests14; rw [g1, g3, g4, g2, g5, g6, g7, g8, g9, g10]
    exact iff_two h (by rw [ho]; decide) (by omega) hop' (by omega)
end
end Go.Proofs.YtpfoifflfgiaoaaGreatDoor
