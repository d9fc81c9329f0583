/- MagSums answers true for every input (the given statement whole, no condition). -/
import Derived.Test.YthpmbfdbknikcaaLaw17m
import Derived.Test.YthpmbfdbknikcaaLaw17n
import Derived.Test.YthpmbfdbknikcaaRows
import Derived.WalkKit
import Derived.ProofKit
import Derived.OpenShut
import Derived.Below
import Derived.Deep.Fields
import Derived.Lib.SmallJoins
import Derived.Laws.IdiomArrays
import Derived.Test.YthpmbfdbknikcaaNum
import Derived.Test.YthpmbfdbknikcaaMag
set_option linter.unusedVariables false
set_option linter.unusedSimpArgs false
namespace Go.Proofs.Ythpmbfdbknikcaa
open Go.RowKit

theorem MagSums_walk {x y ex cl : Int} {ng : Bool} {A B N : Nat} (hA : W256 A) (hB : W256 B) (hN : W128 N) (w : World) :
    Calls Try.prog 11 #[termV x A, termV y B, .agg #[.bool ng, .int .u8 cl, .int .i64 ex, .int .u64 (limb 1 N), .int .u64 (limb 0 N)]] w fun e w' => e = .returned (.bool true) ∧ Below w.heap.size w w' := by
  have s1 := fun w => ref17Sum_any (x := x) (y := y) hA hB w
  have s3 := fun w => magSum_any (x := x) (y := y) hA hB w
  have s5 := fun w => ref17Cmp_any (x := x) (y := y) hA hB w
  have s6 := fun w => magCmp_any (x := x) (y := y) hA hB w
  have s7 := fun w => Join_at (IsBits.of hN) (IsBits.val u64_zero u64_zero) w
  have s8 := fun w => magOf_any (ng := ng) (cl := cl) (ex := ex) hN w
  have hJ := join_w hN (IsBits.val u64_zero u64_zero).w
  by_cases h : cmpT (expI x) A (expI y) B < 0
  · exact MagSums_1 hJ hA hB (add256_w _ _) (sub256_w _ _) hN s1 (fun w => ref17Diff_lt hA hB h w) s3 (fun w => by
      have := magDiff_1 (x := x) (y := y) hA hB rfl h w
      rwa [level_turn] at this) s5 s6 s7 s8 w
  · exact MagSums_0 hJ hA hB (add256_w _ _) (sub256_w _ _) hN s1 (fun w => ref17Diff_ge hA hB h w) s3 (fun w => magDiff_0 hA hB rfl h w) s5 s6 s7 s8 w
end Go.Proofs.Ythpmbfdbknikcaa

namespace Go.Proofs.Ythpmbfdbknikcaa
open Go.ChangeShapes Go.WideShapes Go.ChangeAt Go.RowKit

theorem own : ownKnob Try.prog.godebug = none := by kernel_rfl
theorem laidOut : laidOutB Try.prog = true := by kernel_rfl

section
variable {H : Type} {enc : TypeId × Value → H} {P : Program}
theorem trodAll_stays (hl : laidOutB P = true) {W W' : World} {sp : Nat → Bool} : ∀ (ts : List TypeId) (vs : List Value) (ds : List (DataW H)) (ps : List MemPlace),
    (∀ t ∈ ts, P.readableRec t = true ∧ t < P.types.size) → DataW.TrodAll enc P W 0 (fun _ => true) true ts vs ds ps → (∀ p ∈ ps, W.sameAt W' p) → (∀ p ∈ ps, sp p.block = true) →
    DataW.TrodAll enc P W' 0 sp true ts vs ds ps
  | [], vs, ds, ps, _, h, _, _ => by
    obtain ⟨rfl, rfl, rfl⟩ := trodAll_nil h
    exact trodAll_mk0
  | t :: ts, vs, ds, ps, hr, h, hsame, hs => by
    obtain ⟨v, vs', d, ds', p, q, rfl, rfl, rfl, h0, h1⟩ := trodAll_cons h
    have r0 := hr t (by simp)
    exact trodAll_cons_mk (WideElems.Trod_stays hl r0.1 r0.2 h0 (fun x hx => hsame x (by simp [hx])) (fun x hx => hs x (by simp [hx])))
      (trodAll_stays hl ts vs' ds' q (fun x hx => hr x (by simp [hx])) h1 (fun x hx => hsame x (by simp [hx])) (fun x hx => hs x (by simp [hx])))

/-- the post of a law, behind a walk of which 'Below' is known -/
theorem law_post (hl : laidOutB P = true) {f : Func} {s : ChangeSpec} {W W' : World} {args : Array Value} {ds gs : List (DataW H)} {before : List MemPlace}
    (hr0 : (f.params.toList.all fun t => P.readableRec t && decide (t < P.types.size)) = true) {tb : TypeId} (hres : f.resultTypes = #[tb]) (hb : P.underlying tb = some .bool) (hv : s.vars = [])
    (hs : s.fn H (ds ++ gs) = { results := [.lit (.bool true)], args := ds })
    (hW : DataW.Whole enc P f.params.toList s.vars false W args.toList ds gs before) (hk : Below W.heap.size W W') :
    s.post enc P f false true false false W args (.bool true) W' := by
  have hr : ∀ t ∈ f.params.toList, P.readableRec t = true ∧ t < P.types.size := fun t ht => by
    have := List.all_eq_true.1 hr0 t ht
    simpa using this
  have hlt : ∀ p ∈ before, p.block < W.heap.size := fun p hp => hW.lt p hp
  have hW' := hW
  obtain ⟨p, q, hA, hV, rfl, hz, hn⟩ := hW
  rw [hv] at hV
  obtain ⟨rfl, rfl⟩ := trodVars_none hV
  have hargs : ∀ sp : Nat → Bool, (∀ x ∈ p ++ [], sp x.block = true) → DataW.TrodAll enc P W' 0 sp true f.params.toList args.toList ds p := fun sp hsp =>
    trodAll_stays hl _ _ _ _ hr hA (fun x hx => hk.same (hlt x (by simp [hx]))) (fun x hx => hsp x (by simp [hx]))
  have hrs : ∀ (b : Nat) (sp : Nat → Bool) (hd : Bool), DataW.TrodAll enc P W' b sp hd f.resultTypes.toList ((Value.bool true).resultList f.resultTypes.size) [.lit (.bool true)] [] := fun b sp hd => by
    rw [hres]; exact trodAll_mk1 (shut_bool hb _)
  have hok : ∀ (j : Nat) (t : TypeId) (r : Value), f.resultTypes[j]? = some t → ((Value.bool true).resultList f.resultTypes.size)[j]? = some r → Value.okWide P W' .any 0 t r :=
    ok_one hres rfl (okWide_bool_mk hb _)
  have hold : ∀ x ∈ p ++ [], (fun b => decide (b < W.heap.size)) x.block = true := fun x hx => by simpa using hlt x hx
  refine ⟨ds, [], p ++ [], [], p, [], hW', by rw [hs]; exact hrs _ _ _, by rw [hs]; exact hargs _ hold, by rw [hs, hv]; rfl,
    World.keptBut_mono (fun x hx => ⟨hx, by simpa using hx⟩) (hk.frame (· ∈ p ++ [])), fun _ => ?_⟩
  refine ⟨hok, _, [], ([] ++ p) ++ [], ⟨[] ++ p, [], trodAll_append (hargs _ (fun _ _ => rfl)) (hrs _ _ _), by rw [hv]; rfl, rfl, ?_, ?_⟩, ?_⟩
  · intro b off hp
    have hin : MemPlace.cell b off ∈ p ++ [] := by simpa using hp
    rw [hk.frozen (hlt _ hin)]
    exact hz b off hin
  · intro ha; cases ha
  · intro x hx _
    simpa using hx
end
end Go.Proofs.Ythpmbfdbknikcaa

namespace Go.Proofs.Ythpmbfdbknikcaa
open Go.ChangeShapes Go.WideShapes Go.ChangeAt Go.RowKit

theorem wf_u8 {a : Int} (h : (Lit.int .u8 a).wf = true) : 0 ≤ a ∧ a ≤ 255 := by simpa [Lit.wf, IntKind.min, IntKind.max, IntKind.signed, IntKind.bits] using h
theorem wf_u16 {a : Int} (h : (Lit.int .u16 a).wf = true) : 0 ≤ a ∧ a ≤ 65535 := by simpa [Lit.wf, IntKind.min, IntKind.max, IntKind.signed, IntKind.bits] using h
theorem wf_u32 {a : Int} (h : (Lit.int .u32 a).wf = true) : 0 ≤ a ∧ a ≤ 4294967295 := by simpa [Lit.wf, IntKind.min, IntKind.max, IntKind.signed, IntKind.bits] using h
theorem wf_u64 {a : Int} (h : (Lit.int .u64 a).wf = true) : 0 ≤ a ∧ a ≤ 18446744073709551615 := by simpa [Lit.wf, IntKind.min, IntKind.max, IntKind.signed, IntKind.bits] using h
theorem wf_i64 {a : Int} (h : (Lit.int .i64 a).wf = true) : -9223372036854775808 ≤ a ∧ a ≤ 9223372036854775807 := by simpa [Lit.wf, IntKind.min, IntKind.max, IntKind.signed, IntKind.bits] using h
theorem wf_i16 {a : Int} (h : (Lit.int .i16 a).wf = true) : -32768 ≤ a ∧ a ≤ 32767 := by simpa [Lit.wf, IntKind.min, IntKind.max, IntKind.signed, IntKind.bits] using h
section
variable {H : Type} {enc : TypeId × Value → H} {W : World} {base bs : Nat} {sp : Nat → Bool} {held : Bool} {r : Reach} {v : Value} {d : DataW H} {p : List MemPlace}
theorem u64_of_wf {a : Int} (h : (Lit.int .u64 a).wf = true) : U64 a := U64.mk' (wf_u64 h).1 (wf_u64 h).2
set_option maxRecDepth 100000 in
theorem open_bits (hv : Value.okWide Try.prog W r bs 24 v) (h : DataW.Trod enc Try.prog W base sp held 24 v d p) : ∃ A : Nat, v = bitsV A ∧ W128 A := by
  obtain ⟨cs, rfl, hsz⟩ := okWide_struct Try.underlying24 hv
  obtain ⟨c0, c1, rfl⟩ := Joins.array2 (hsz.trans (show Try.prog.cellsOf 24 = 2 by kernel_rfl))
  obtain ⟨fuel, hf⟩ := h
  obtain ⟨y0, y1, n, hx, _, h0, h1⟩ := trod_struct2 Try.underlying24 hf
  have e0 : (List.drop 0 (Value.cells (.agg #[c0, c1])).toList).take (Try.prog.cellsOf 22) = [c0] := by rw [show Try.prog.cellsOf 22 = 1 by kernel_rfl]; rfl
  have e1 : (List.drop 1 (Value.cells (.agg #[c0, c1])).toList).take (Try.prog.cellsOf 22) = [c1] := by rw [show Try.prog.cellsOf 22 = 1 by kernel_rfl]; rfl
  have h0' := h0
  have h1' := h1
  simp only [e0] at h0'
  simp only [e1] at h1'
  obtain ⟨a1, q1, _, w1⟩ := DataW.trod_int Try.underlying22 h0'
  obtain ⟨a0, q0, _, w0⟩ := DataW.trod_int Try.underlying22 h1'
  obtain rfl : c0 = .int .u64 a1 := by simpa using q1
  obtain rfl : c1 = .int .u64 a0 := by simpa using q0
  have hb := IsBits.val (u64_of_wf w1) (u64_of_wf w0)
  exact ⟨val2 a0 a1, by rw [bitsV, ← hb.hi, ← hb.lo], hb.w⟩
set_option maxRecDepth 100000 in
theorem open_wide (hv : Value.okWide Try.prog W r bs 26 v) (h : DataW.Trod enc Try.prog W base sp held 26 v d p) : ∃ A : Nat, v = wideV A ∧ W256 A := by
  obtain ⟨cs, rfl, hsz, _⟩ : ∃ cs, v = .agg cs ∧ cs.size = Try.prog.cellsOf 26 ∧ Row.okWide Try.prog W r bs 26 cs := by
    simpa [Value.okWide, Try.underlying26] using hv
  obtain ⟨c0, c1, c2, c3, rfl⟩ := Joins.array4 (hsz.trans (show Try.prog.cellsOf 26 = 4 by kernel_rfl))
  obtain ⟨fuel, hf⟩ := h
  obtain ⟨y0, y1, y2, y3, m, hx, hy0, hy1, hy2, hy3⟩ := trod_array4 Try.underlying26 (show Try.prog.cellsOf 22 = 1 by kernel_rfl) hf
  obtain ⟨x0, e0, _, w0⟩ := DataW.trod_int Try.underlying22 hy0
  obtain ⟨x1, e1, _, w1⟩ := DataW.trod_int Try.underlying22 hy1
  obtain ⟨x2, e2, _, w2⟩ := DataW.trod_int Try.underlying22 hy2
  obtain ⟨x3, e3, _, w3⟩ := DataW.trod_int Try.underlying22 hy3
  obtain rfl : c0 = .int .u64 x0 := by simpa using e0
  obtain rfl : c1 = .int .u64 x1 := by simpa using e1
  obtain rfl : c2 = .int .u64 x2 := by simpa using e2
  obtain rfl : c3 = .int .u64 x3 := by simpa using e3
  have hb := IsWide.val (u64_of_wf w0) (u64_of_wf w1) (u64_of_wf w2) (u64_of_wf w3)
  exact ⟨val4 x0 x1 x2 x3, by rw [wideV, ← hb.e0, ← hb.e1, ← hb.e2, ← hb.e3], hb.w⟩
end
end Go.Proofs.Ythpmbfdbknikcaa

namespace Go.Proofs.Ythpmbfdbknikcaa
open Go.ChangeShapes Go.WideShapes Go.ChangeAt Go.RowKit

theorem array5 {α : Type} {cs : Array α} (h : cs.size = 5) : ∃ c0 c1 c2 c3 c4, cs = #[c0, c1, c2, c3, c4] := by
  obtain ⟨l⟩ := cs
  match l, h with
  | [c0, c1, c2, c3, c4], _ => exact ⟨c0, c1, c2, c3, c4, rfl⟩
section
variable {H : Type} {enc : TypeId × Value → H} {W : World} {base bs : Nat} {sp : Nat → Bool} {held : Bool} {r : Reach} {v : Value} {d : DataW H} {p : List MemPlace}
set_option maxRecDepth 100000 in
theorem open_term (hv : Value.okWide Try.prog W r bs 60 v) (h : DataW.Trod enc Try.prog W base sp held 60 v d p) : ∃ (x : Int) (A : Nat), v = termV x A ∧ (-9223372036854775808 ≤ x ∧ x ≤ 9223372036854775807) ∧ W256 A := by
  obtain ⟨cs, rfl, hsz⟩ := okWide_struct Try.underlying60 hv
  obtain ⟨c, c0, c1, c2, c3, rfl⟩ := array5 (hsz.trans (show Try.prog.cellsOf 60 = 5 by kernel_rfl))
  obtain ⟨fuel, hf⟩ := h
  obtain ⟨y0, y1, n, hx, _, h0, h1⟩ := trod_struct2 Try.underlying60 hf
  have f0 : (List.drop 0 (Value.cells (.agg #[c, c0, c1, c2, c3])).toList).take (Try.prog.cellsOf 3) = [c] := by rw [show Try.prog.cellsOf 3 = 1 by kernel_rfl]; rfl
  have f1 : (List.drop 1 (Value.cells (.agg #[c, c0, c1, c2, c3])).toList).take (Try.prog.cellsOf 26) = [c0, c1, c2, c3] := by rw [show Try.prog.cellsOf 26 = 4 by kernel_rfl]; rfl
  have h0' := h0
  have h1' := h1
  simp only [f0] at h0'
  simp only [f1] at h1'
  obtain ⟨x, q, _, w⟩ := DataW.trod_int Try.underlying3 h0'
  obtain ⟨y0, y1, y2, y3, m, hx, hy0, hy1, hy2, hy3⟩ := trod_array4 Try.underlying26 (show Try.prog.cellsOf 22 = 1 by kernel_rfl) h1'
  obtain ⟨x0, e0, _, w0⟩ := DataW.trod_int Try.underlying22 hy0
  obtain ⟨x1, e1, _, w1⟩ := DataW.trod_int Try.underlying22 hy1
  obtain ⟨x2, e2, _, w2⟩ := DataW.trod_int Try.underlying22 hy2
  obtain ⟨x3, e3, _, w3⟩ := DataW.trod_int Try.underlying22 hy3
  obtain rfl : c = .int .i64 x := by simpa using q
  obtain rfl : c0 = .int .u64 x0 := by simpa using e0
  obtain rfl : c1 = .int .u64 x1 := by simpa using e1
  obtain rfl : c2 = .int .u64 x2 := by simpa using e2
  obtain rfl : c3 = .int .u64 x3 := by simpa using e3
  have hb := IsWide.val (u64_of_wf w0) (u64_of_wf w1) (u64_of_wf w2) (u64_of_wf w3)
  exact ⟨x, val4 x0 x1 x2 x3, by rw [termV, ← hb.e0, ← hb.e1, ← hb.e2, ← hb.e3], wf_i64 w, hb.w⟩
set_option maxRecDepth 100000 in
theorem open_num (hv : Value.okWide Try.prog W r bs 72 v) (h : DataW.Trod enc Try.prog W base sp held 72 v d p) :
    ∃ (ng : Bool) (cl ex : Int) (S : Nat), v = .agg #[.bool ng, .int .u8 cl, .int .i64 ex, .int .u64 (limb 1 S), .int .u64 (limb 0 S)] ∧ (-9223372036854775808 ≤ ex ∧ ex ≤ 9223372036854775807) ∧ W128 S := by
  obtain ⟨cs, rfl, hsz⟩ := okWide_struct Try.underlying72 hv
  obtain ⟨c0, c1, c2, c3, c4, rfl⟩ := array5 (hsz.trans (show Try.prog.cellsOf 72 = 5 by kernel_rfl))
  obtain ⟨fuel, hf⟩ := h
  obtain ⟨y0, y1, y2, y3, n, hx, _, h0, h1, h2, h3⟩ := Joins.trod_struct4 Try.underlying72 hf
  have e0 : (List.drop 0 (Value.cells (.agg #[c0, c1, c2, c3, c4])).toList).take (Try.prog.cellsOf 4) = [c0] := by rw [show Try.prog.cellsOf 4 = 1 by kernel_rfl]; rfl
  have e1 : (List.drop 1 (Value.cells (.agg #[c0, c1, c2, c3, c4])).toList).take (Try.prog.cellsOf 70) = [c1] := by rw [show Try.prog.cellsOf 70 = 1 by kernel_rfl]; rfl
  have e2 : (List.drop 2 (Value.cells (.agg #[c0, c1, c2, c3, c4])).toList).take (Try.prog.cellsOf 3) = [c2] := by rw [show Try.prog.cellsOf 3 = 1 by kernel_rfl]; rfl
  have e3 : (List.drop 3 (Value.cells (.agg #[c0, c1, c2, c3, c4])).toList).take (Try.prog.cellsOf 24) = [c3, c4] := by rw [show Try.prog.cellsOf 24 = 2 by kernel_rfl]; rfl
  have h0' := h0
  have h1' := h1
  have h2' := h2
  have h3' := h3
  simp only [e0] at h0'
  simp only [e1] at h1'
  simp only [e2] at h2'
  simp only [e3] at h3'
  obtain ⟨ng, q0, _⟩ := DataW.trod_bool Try.underlying4 h0'
  obtain ⟨cl, q1, _, w1⟩ := DataW.trod_int Try.underlying70 h1'
  obtain ⟨ex, q2, _, w2⟩ := DataW.trod_int Try.underlying3 h2'
  obtain ⟨z0, z1, m, hz, _, g0, g1⟩ := trod_struct2 Try.underlying24 h3'
  have f0 : (List.drop 0 [c3, c4]).take (Try.prog.cellsOf 22) = [c3] := by rw [show Try.prog.cellsOf 22 = 1 by kernel_rfl]; rfl
  have f1 : (List.drop 1 [c3, c4]).take (Try.prog.cellsOf 22) = [c4] := by rw [show Try.prog.cellsOf 22 = 1 by kernel_rfl]; rfl
  have g0' := g0
  have g1' := g1
  simp only [f0] at g0'
  simp only [f1] at g1'
  obtain ⟨a1, p1, _, v1⟩ := DataW.trod_int Try.underlying22 g0'
  obtain ⟨a0, p0, _, v0⟩ := DataW.trod_int Try.underlying22 g1'
  obtain rfl : c0 = .bool ng := by simpa using q0
  obtain rfl : c1 = .int .u8 cl := by simpa using q1
  obtain rfl : c2 = .int .i64 ex := by simpa using q2
  obtain rfl : c3 = .int .u64 a1 := by simpa using p1
  obtain rfl : c4 = .int .u64 a0 := by simpa using p0
  have hb := IsBits.val (u64_of_wf v1) (u64_of_wf v0)
  exact ⟨ng, cl, ex, val2 a0 a1, by rw [← hb.hi, ← hb.lo], wf_i64 w2, hb.w⟩
end
end Go.Proofs.Ythpmbfdbknikcaa

namespace Go.Proofs.Ythpmbfdbknikcaa.MagSums
open Go.ChangeShapes Go.WideShapes Go.ChangeAt Go.RowKit

set_option maxRecDepth 100000 in
theorem lifted (os : Os) (started : os.Started) (H : Type) (enc : TypeId × Value → H) :
    ReturnsInHanded {} Try.checked os 11 .any (Rows.magSumsSpec.pre6 enc Try.prog Try.f11 Rows.magSumsRow.domain false) (Rows.magSumsSpec.post enc Try.prog Try.f11 false true false false) := by
  refine returnsInHanded_of_change (C := Try.checked) own started (by kernel_rfl) Try.func11
    (ChangeSpec.witness6 (enc := enc) (C := Try.checked) false ⟨#[], #[.agg #[.int .i64 0, .int .u64 0, .int .u64 0, .int .u64 0, .int .u64 0], .agg #[.int .i64 0, .int .u64 0, .int .u64 0, .int .u64 0, .int .u64 0], .agg #[.bool false, .int .u8 0, .int .i64 0, .int .u64 0, .int .u64 0]], []⟩ 8 (by kernel_rfl) (by kernel_rfl) (by kernel_rfl) (by kernel_rfl)) ?_
  intro W base args ds gs before hval0 hW _ _
  have hval : ∀ (j : Nat) t v, Try.f11.params[j]? = some t → args[j]? = some v → Value.okWide Try.prog W .any base t v := hval0
  have hW' := hW
  obtain ⟨p, q, hA0, hV, rfl, hfz, hnd⟩ := hW
  have hA : DataW.TrodAll enc Try.prog W 0 (fun _ => true) true Try.f11.params.toList args.toList ds p := hA0
  rw [Try.params11] at hA hval
  obtain ⟨v0, vs0, d0, ds0, p0, q0, hargs, rfl, rfl, h0, r0⟩ := trodAll_cons hA
  obtain ⟨v1, vs1, d1, ds1, p1, q1, rfl, rfl, rfl, h1, r1⟩ := trodAll_cons r0
  obtain ⟨v2, vs2, d2, ds2, p2, q2, rfl, rfl, rfl, h2, r2⟩ := trodAll_cons r1
  obtain ⟨rfl, rfl, rfl⟩ := trodAll_nil r2
  obtain rfl : args = #[v0, v1, v2] := by cases args; simp_all
  obtain ⟨rfl, rfl⟩ := trodVars_none hV
  obtain ⟨x, A, rfl, rx, zA⟩ := open_term (hval 0 60 v0 rfl rfl) h0
  obtain ⟨y, B, rfl, ry, zB⟩ := open_term (hval 1 60 v1 rfl rfl) h1
  obtain ⟨ng, cl, ex, N, rfl, rn, zN⟩ := open_num (hval 2 72 v2 rfl rfl) h2
  clear hA0 hval0
  refine (MagSums_walk zA zB zN W).mono fun e W' ⟨he, hk⟩ => ?_
  exact ⟨_, he, law_post laidOut (by kernel_rfl) (tb := 4) (by kernel_rfl) Try.underlying4 rfl rfl hW' hk⟩

/-- the given statement -/
theorem proved : Rows.MagSumsSaid :=
  OpenClaim.holds_of_wide 11 Try.f11 rfl rfl rfl rfl rfl rfl rfl ⟨rfl, rfl, rfl, rfl, rfl⟩ rfl rfl rfl rfl rfl (by kernel_rfl) Try.func11 (by kernel_rfl)
    (of_decide_eq_true (by kernel_rfl)) (by unfold Func.isWrapper; first | (rw [if_pos (by decide +kernel)]; kernel_rfl) | (rw [if_neg (by decide +kernel)]; exact ⟨rfl, rfl⟩))
    (fun os started H enc _ => lifted os started H enc)
#print axioms proved
end Go.Proofs.Ythpmbfdbknikcaa.MagSums

