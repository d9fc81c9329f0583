/- hairsbreadthtop.TopSticky answers true for every list of entries (scripts of raw entries: each outcome is its own, the flags stick), and the list reads as it did, in every world in which the eight listed package-level variables hold what the program's text lays: the tied card, with no further condition. -/
import Derived.Test.YtpfoifflfgiaoaaGreatDoorK43
import Derived.Test.YtpfoifflfgiaoaaGreatDoorRows
import Derived.WalkKit
import Derived.ProofKit
import Derived.OpenShut
import Derived.Deep.Fields
import Derived.Lib.SmallJoins
import Derived.Laws.IdiomArrays
import Derived.Test.YtpfoifflfgiaoaaGreatDoorK01
import Derived.Test.YtpfoifflfgiaoaaGreatDoorK29
import Derived.Deep.Slices
import Derived.Lib.LaidU8
import Derived.Below
import Derived.Test.YtpfoifflfgiaoaaGreatDoorCards
import Derived.Test.YtpfoifflfgiaoaaGreatDoorTie
import Derived.Test.YtpfoifflfgiaoaaGreatDoorK33
import Derived.Deep.DeepHandedRow
import Derived.Lay
import Derived.MakeChecks
set_option linter.unusedVariables false
set_option linter.unusedSimpArgs false
namespace Go.Proofs.YtpfoifflfgiaoaaGreatDoor
open Go Go.RowKit Go.MapKept

/-- the oracles: what the script answers is known too -/
def orcW : Orc := fun f args h =>
  if f = 20 then match args with
    | [.v (.string s)] => some (scriptR, [decide (s = scriptT)])
    | _ => none
  else orcV f args h
theorem orcW_ok {B : Nat} {W : World} (hG : GOk G1 B W) : OrcOk Tryz.prog B W orcW := by
  intro f args h r ob hr ho e w hs hb
  unfold orcW at hr
  split at hr
  · rename_i hf; subst hf
    split at hr <;> try cases hr
    rename_i s
    have hsT : s = scriptT := of_decide_eq_true (ho _ (List.mem_singleton_self _))
    subst hsT
    exact script_says e w (hG.below hb hs.size)
  · exact orcV_ok hG f args h r ob hr ho e w hs hb
theorem wakes_says : Says Tryz.prog G1 11 [] (.b true) := says_plain ext1_ok noNG litG1 (fun B W hG => orcW_ok hG) (by rfl) (by kernel_rfl)
theorem wakes_any (w : World) (hG : GOk G1 w.heap.size w) : Calls Tryz.prog 11 #[] w fun e w' => e = .returned (.bool true) ∧ Below w.heap.size w w' := wakes_says e0 w hG
end Go.Proofs.YtpfoifflfgiaoaaGreatDoor
namespace Go.Proofs.YtpfoifflfgiaoaaGreatDoor
open Go.ChangeShapes Go.WideShapes Go.ChangeAt Go.RowKit

theorem wf_u8 {a : Int} (h : (Lit.int .u8 a).wf = true) : 0 ≤ a ∧ a ≤ 255 := by simpa [Lit.wf, IntKind.min, IntKind.max, IntKind.signed, IntKind.bits] using h
theorem wf_u64 {a : Int} (h : (Lit.int .u64 a).wf = true) : 0 ≤ a ∧ a ≤ 18446744073709551615 := by simpa [Lit.wf, IntKind.min, IntKind.max, IntKind.signed, IntKind.bits] using h
section
variable {H : Type} {enc : TypeId × Value → H} {W : World} {base bs : Nat} {sp : Nat → Bool} {held : Bool} {r : Reach} {v : Value} {d : DataW H} {p : List MemPlace}
theorem u64_of_wf {a : Int} (h : (Lit.int .u64 a).wf = true) : U64 a := U64.mk' (wf_u64 h).1 (wf_u64 h).2
end
end Go.Proofs.YtpfoifflfgiaoaaGreatDoor
namespace Go.Proofs.YtpfoifflfgiaoaaGreatDoor
open Go Go.RowKit Go.ChangeShapes Go.WideShapes Go.ChangeAt Go.Lib

/-- parts of a list, one behind the other -/
theorem parts_prefix {α : Type} {m : Nat} : ∀ (ls : List (List α)) (cs : List α), (∀ i l, ls[i]? = some l → (cs.drop (i * m)).take m = l) → ls.flatten <+: cs
  | [], cs, _ => by simp
  | l :: ls, cs, h => by
    have h0 : cs.take m = l := by simpa using h 0 l rfl
    have ih := parts_prefix ls (cs.drop m) (fun i l' hi => by
      have := h (i + 1) l' (by simpa using hi)
      rw [List.drop_drop]
      rw [show m + i * m = (i + 1) * m by rw [Nat.add_mul]; omega]
      exact this)
    rw [List.flatten_cons, ← List.take_append_drop m cs, h0]
    obtain ⟨t, ht⟩ := ih
    exact ⟨t, by rw [List.append_assoc, ht]⟩

/-- a package-level variable's cells -/
theorem gok_of {W : World} {n : String} {g : Nat} {cs : Array Value} {l : List AV} (hg : Tryz.prog.globalNamed n = some g) (hv : W.var? Tryz.prog n = some cs) (hp : denL e0 l <+: cs.toList) (h0 : 0 < (denL e0 l).length) :
    g < W.heap.size ∧ ∀ (i : Nat) v, (denL e0 l)[i]? = some v → W.cell? ⟨g, i, none⟩ = some v := by
  have hc : ∀ (i : Nat) v, (denL e0 l)[i]? = some v → W.cell? ⟨g, i, none⟩ = some v := fun i v hi => by
    rw [World.var?_cell hg hv i, ← Array.getElem?_toList]
    obtain ⟨t, ht⟩ := hp
    have hlt : i < (denL e0 l).length := (List.getElem?_eq_some_iff.1 hi).1
    rw [← ht, List.getElem?_append_left hlt]
    exact hi
  exact ⟨World.block_lt_of_cell? W ⟨g, 0, none⟩ (hc 0 _ (List.getElem?_eq_getElem h0)), hc⟩

theorem tNames : (Tryz.prog.globals[4]?).map (·.type) = some 86 := by kernel_rfl
theorem tTable : (Tryz.prog.globals[1]?).map (·.type) = some 325 := by kernel_rfl
theorem tEnds : (Tryz.prog.globals[0]?).map (·.type) = some 279 := by kernel_rfl
theorem gNames : Tryz.prog.globalNamed "hairsbreadth/flag.names" = some 4 := by kernel_rfl
theorem gTable : Tryz.prog.globalNamed "hairsbreadth/format.table" = some 1 := by kernel_rfl
theorem gEnds : Tryz.prog.globalNamed "hairsbreadth/toint.ends" = some 0 := by kernel_rfl
theorem cells3 : Tryz.prog.cellsOf 3 = 1 := by kernel_rfl
theorem cells5 : Tryz.prog.cellsOf 5 = 1 := by kernel_rfl
theorem cells9 : Tryz.prog.cellsOf 9 = 1 := by kernel_rfl
theorem cells27 : Tryz.prog.cellsOf 27 = 1 := by kernel_rfl
theorem cells29 : Tryz.prog.cellsOf 29 = 2 := by kernel_rfl
theorem cells34 : Tryz.prog.cellsOf 34 = 11 := by kernel_rfl
theorem cells197 : Tryz.prog.cellsOf 197 = 2 := by kernel_rfl
theorem cells274 : Tryz.prog.cellsOf 274 = 3 := by kernel_rfl

theorem names_reads {W : World} (h : VarReads Tryz.prog W "hairsbreadth/flag.names" Rows.laid_hairsbreadth_flag_names) : 4 < W.heap.size ∧ ∀ (i : Nat) v, (denL e0 namesL)[i]? = some v → W.cell? ⟨4, i, none⟩ = some v := by
  obtain ⟨g, t, cs, fuel, p, hg, hty, hvar, hd⟩ := h
  obtain rfl := Option.some.inj (gNames.symm.trans hg)
  obtain rfl := Option.some.inj (tNames.symm.trans hty)
  refine gok_of gNames hvar ?_ (by decide)
  refine (show ((denL e0 namesL).map fun v => [v]).flatten <+: cs.toList → denL e0 namesL <+: cs.toList from fun h => h) (parts_prefix (m := 1) _ cs.toList ?_)
  intro i l hi
  have hlt : i < 5 := by
    have := (List.getElem?_eq_some_iff.1 hi).1
    simpa [namesL, denL] using this
  obtain ⟨fuel', d, q, hdi, he⟩ := array_elem Tryz.underlying86 hd i hlt
  rw [cells9] at he
  obtain ⟨s, hs, hx, _⟩ := DataW.trod_string Tryz.underlying9 he
  rw [hs]
  have hd2 : d = .lit (.string s.data.toList) := congrArg Prod.fst hx
  subst hd2
  obtain ⟨⟨sl⟩⟩ := s
  match i, hlt with
  | 0, _ => obtain rfl := Option.some.inj hi; cases hdi; rfl
  | 1, _ => obtain rfl := Option.some.inj hi; cases hdi; rfl
  | 2, _ => obtain rfl := Option.some.inj hi; cases hdi; rfl
  | 3, _ => obtain rfl := Option.some.inj hi; cases hdi; rfl
  | 4, _ => obtain rfl := Option.some.inj hi; cases hdi; rfl
theorem table_reads {W : World} (h : VarReads Tryz.prog W "hairsbreadth/format.table" Rows.laid_hairsbreadth_format_table) : 1 < W.heap.size ∧ ∀ (i : Nat) v, (denL e0 ([16,11,15,32,24,127,64,53,1023,128,113,16383].map fun x => AV.n .i64 x))[i]? = some v → W.cell? ⟨1, i, none⟩ = some v := by
  obtain ⟨g, t, cs, fuel, p, hg, hty, hvar, hd⟩ := h
  obtain rfl := Option.some.inj (gTable.symm.trans hg)
  obtain rfl := Option.some.inj (tTable.symm.trans hty)
  refine gok_of gTable hvar ?_ (by decide)
  refine parts_prefix (m := 3) [[16, 11, 15].map fun x => Value.int .i64 x, [32, 24, 127].map fun x => Value.int .i64 x, [64, 53, 1023].map fun x => Value.int .i64 x, [128, 113, 16383].map fun x => Value.int .i64 x] cs.toList ?_
  intro i l hi
  have hlt : i < 4 := (List.getElem?_eq_some_iff.1 hi).1
  obtain ⟨fuel', d, q, hdi, he⟩ := array_elem Tryz.underlying325 hd i hlt
  rw [cells274] at he
  have key : ∀ zs : List Int, d = .agg (zs.map fun z => .lit (.int .i64 z)) → (cs.toList.drop (i * 3)).take 3 = zs.map fun z => Value.int .i64 z := fun zs hz => by
    subst hz
    exact ints_of_struct Tryz.underlying274 (fun j f hj => by
      match j, hj with
      | 0, hj => simp at hj; subst hj; exact ⟨Tryz.underlying3, rfl, cells3⟩
      | 1, hj => simp at hj; subst hj; exact ⟨Tryz.underlying3, rfl, cells3⟩
      | 2, hj => simp at hj; subst hj; exact ⟨Tryz.underlying3, rfl, cells3⟩
      | j + 3, hj => simp at hj) (by rw [cells274]; rfl) he
  match i, hlt with
  | 0, _ => obtain rfl := Option.some.inj hi; cases hdi; exact key [16, 11, 15] rfl
  | 1, _ => obtain rfl := Option.some.inj hi; cases hdi; exact key [32, 24, 127] rfl
  | 2, _ => obtain rfl := Option.some.inj hi; cases hdi; exact key [64, 53, 1023] rfl
  | 3, _ => obtain rfl := Option.some.inj hi; cases hdi; exact key [128, 113, 16383] rfl
theorem ends_reads {W : World} (h : VarReads Tryz.prog W "hairsbreadth/toint.ends" Rows.laid_hairsbreadth_toint_ends) : 0 < W.heap.size ∧ ∀ (i : Nat) v, (denL e0 ([2147483648,2147483647,0,4294967295,9223372036854775808,9223372036854775807,0,18446744073709551615].map fun x => AV.n .u64 x))[i]? = some v → W.cell? ⟨0, i, none⟩ = some v := by
  obtain ⟨g, t, cs, fuel, p, hg, hty, hvar, hd⟩ := h
  obtain rfl := Option.some.inj (gEnds.symm.trans hg)
  obtain rfl := Option.some.inj (tEnds.symm.trans hty)
  refine gok_of gEnds hvar ?_ (by decide)
  refine parts_prefix (m := 2) [[2147483648,2147483647].map fun x => Value.int .u64 x, [0,4294967295].map fun x => Value.int .u64 x, [9223372036854775808,9223372036854775807].map fun x => Value.int .u64 x, [0,18446744073709551615].map fun x => Value.int .u64 x] cs.toList ?_
  intro i l hi
  have hlt : i < 4 := (List.getElem?_eq_some_iff.1 hi).1
  obtain ⟨fuel', d, q, hdi, he⟩ := array_elem Tryz.underlying279 hd i hlt
  rw [cells197] at he
  have key : ∀ zs : List Int, d = .agg (zs.map fun z => .lit (.int .u64 z)) → (cs.toList.drop (i * 2)).take 2 = zs.map fun z => Value.int .u64 z := fun zs hz => by
    subst hz
    exact ints_of_struct Tryz.underlying197 (fun j f hj => by
      match j, hj with
      | 0, hj => simp at hj; subst hj; exact ⟨Tryz.underlying27, rfl, cells27⟩
      | 1, hj => simp at hj; subst hj; exact ⟨Tryz.underlying27, rfl, cells27⟩
      | j + 2, hj => simp at hj) (by rw [cells197]; rfl) he
  match i, hlt with
  | 0, _ => obtain rfl := Option.some.inj hi; cases hdi; exact key [2147483648,2147483647] rfl
  | 1, _ => obtain rfl := Option.some.inj hi; cases hdi; exact key [0,4294967295] rfl
  | 2, _ => obtain rfl := Option.some.inj hi; cases hdi; exact key [9223372036854775808,9223372036854775807] rfl
  | 3, _ => obtain rfl := Option.some.inj hi; cases hdi; exact key [0,18446744073709551615] rfl
/-- WHAT THE ROW's LIST GIVES -/
theorem gok_row {W : World} (hL : laidMetH Tryz.prog Rows.topStickyRow.laid W) : GOk G1 W.heap.size W := by
  have h : laidMet Tryz.prog Rows.topStickyRow.laid W := hL
  have r4 := names_reads (Lib.laidMet.reads h (n := "hairsbreadth/flag.names") (d := Rows.laid_hairsbreadth_flag_names) (by simp [Rows.topStickyRow]))
  have r1 := table_reads (Lib.laidMet.reads h (n := "hairsbreadth/format.table") (d := Rows.laid_hairsbreadth_format_table) (by simp [Rows.topStickyRow]))
  have r0 := ends_reads (Lib.laidMet.reads h (n := "hairsbreadth/toint.ends") (d := Rows.laid_hairsbreadth_toint_ends) (by simp [Rows.topStickyRow]))
  intro g hg
  simp only [G1, G0, List.mem_cons, List.not_mem_nil, or_false] at hg
  rcases hg with rfl | rfl | rfl
  · exact r4
  · exact r0
  · exact r1

set_option maxRecDepth 100000 in
/-- an entry, opened -/
theorem ent_of {H : Type} {enc : TypeId × Value → H} {W : World} {base fuel : Nat} {sp : Nat → Bool} {held : Bool} {cs : List Value} {x : DataW H × List MemPlace} (h : DataW.trod enc Tryz.prog W base sp held fuel 34 cs = some x) : ∃ n : Ent, cs = n.cells := by
  obtain ⟨xs, m, rfl, _, hl, hxl, hall⟩ := DataW.trod_struct Tryz.underlying34 h
  rw [cells34] at hl
  have hf : ∀ (i : Nat) (f : Field) (k : Nat), _ → Tryz.prog.cellsOf f.type = k → ∃ y, DataW.trod enc Tryz.prog W base sp held m f.type ((cs.drop f.offset).take k) = some y := fun i f k hi hk => by
    subst hk
    rw [hall i f hi]
    have hlt : i < xs.length := by rw [hxl]; exact (Array.getElem?_eq_some_iff.1 hi).1
    exact ⟨_, List.getElem?_eq_getElem hlt⟩
  clear hall
  match cs, hl with
  | [c0, c1, c2, c3, c4, c5, c6, c7, c8, c9, c10], _ =>
  obtain ⟨_, h0⟩ : ∃ y, DataW.trod enc Tryz.prog W base sp held m 5 [c0] = some y := hf 0 _ 1 rfl cells5
  obtain ⟨_, h1⟩ : ∃ y, DataW.trod enc Tryz.prog W base sp held m 5 [c1] = some y := hf 1 _ 1 rfl cells5
  obtain ⟨_, h2⟩ : ∃ y, DataW.trod enc Tryz.prog W base sp held m 5 [c2] = some y := hf 2 _ 1 rfl cells5
  obtain ⟨_, h3⟩ : ∃ y, DataW.trod enc Tryz.prog W base sp held m 5 [c3] = some y := hf 3 _ 1 rfl cells5
  obtain ⟨_, h4⟩ : ∃ y, DataW.trod enc Tryz.prog W base sp held m 5 [c4] = some y := hf 4 _ 1 rfl cells5
  obtain ⟨_, h5⟩ : ∃ y, DataW.trod enc Tryz.prog W base sp held m 29 [c5, c6] = some y := hf 5 _ 2 rfl cells29
  obtain ⟨_, h6⟩ : ∃ y, DataW.trod enc Tryz.prog W base sp held m 29 [c7, c8] = some y := hf 6 _ 2 rfl cells29
  obtain ⟨_, h7⟩ : ∃ y, DataW.trod enc Tryz.prog W base sp held m 29 [c9, c10] = some y := hf 7 _ 2 rfl cells29
  clear hf
  obtain ⟨z0, e0, _, w0⟩ := DataW.trod_int Tryz.underlying5 h0
  obtain ⟨z1, e1, _, w1⟩ := DataW.trod_int Tryz.underlying5 h1
  obtain ⟨z2, e2, _, w2⟩ := DataW.trod_int Tryz.underlying5 h2
  obtain ⟨z3, e3, _, w3⟩ := DataW.trod_int Tryz.underlying5 h3
  obtain ⟨z4, e4, _, w4⟩ := DataW.trod_int Tryz.underlying5 h4
  obtain ⟨_, _, _, _, _, h5a, h5b⟩ := trod_struct2 Tryz.underlying29 h5
  obtain ⟨_, _, _, _, _, h6a, h6b⟩ := trod_struct2 Tryz.underlying29 h6
  obtain ⟨_, _, _, _, _, h7a, h7b⟩ := trod_struct2 Tryz.underlying29 h7
  simp only [cells27, List.drop_succ_cons, List.drop_zero, List.take_succ_cons, List.take_zero] at h5a h5b h6a h6b h7a h7b
  obtain ⟨z5, e5, _, w5⟩ := DataW.trod_int Tryz.underlying27 h5a
  obtain ⟨z6, e6, _, w6⟩ := DataW.trod_int Tryz.underlying27 h5b
  obtain ⟨z7, e7, _, w7⟩ := DataW.trod_int Tryz.underlying27 h6a
  obtain ⟨z8, e8, _, w8⟩ := DataW.trod_int Tryz.underlying27 h6b
  obtain ⟨z9, e9, _, w9⟩ := DataW.trod_int Tryz.underlying27 h7a
  obtain ⟨z10, e10, _, w10⟩ := DataW.trod_int Tryz.underlying27 h7b
  simp only [List.cons.injEq, and_true] at e0 e1 e2 e3 e4 e5 e6 e7 e8 e9 e10
  subst e0 e1 e2 e3 e4 e5 e6 e7 e8 e9 e10
  exact ⟨⟨z0, z1, z2, z3, z4, z5, z6, z7, z8, z9, z10, ⟨wf_u8 w0, wf_u8 w1, wf_u8 w2, wf_u8 w3, wf_u8 w4, u64_of_wf w5, u64_of_wf w6, u64_of_wf w7, u64_of_wf w8, u64_of_wf w9, u64_of_wf w10⟩⟩, rfl⟩

theorem addr_spot {w : World} {a : Addr} {v : Value} (h : w.cell? a = some v) : a.spot = none := by
  unfold World.cell? at h
  split at h
  · split at h
    · cases h
    · rename_i h1; simpa using h1
  · cases h
theorem addr_off {a : Addr} (h : a.spot = none) (n : Nat) : a.add n = ⟨a.block, a.off + n, none⟩ := by
  obtain ⟨b, o, s⟩ := a
  dsimp only at h
  subst h
  unfold Addr.add
  split
  · rename_i h0; subst h0; rfl
  · rfl
theorem addr_block (a : Addr) (n : Nat) : (a.add n).block = a.block := by unfold Addr.add; split <;> rfl

set_option maxRecDepth 100000 in
/-- WHAT THE ARGUMENT IS -/
theorem open_ents {H : Type} {enc : TypeId × Value → H} {W : World} {base bs : Nat} {sp : Nat → Bool} {held : Bool} {r : Reach} {v : Value} {d : DataW H} {p : List MemPlace}
    (hv : Value.okWide Tryz.prog W r bs 22 v) (h : DataW.Trod enc Tryz.prog W base sp held 22 v d p) :
    (∃ a c, v = .slice a 0 c) ∨ ∃ (b lo c : Nat) (es : List Ent), v = .slice (some ⟨b, lo, none⟩) es.length c ∧ EntsAt W b lo es := by
  obtain ⟨a, len, cap, rfl⟩ := okWide_slice Tryz.underlying22 hv
  obtain ⟨fuel, hf⟩ := h
  rcases Deep.open_slice Tryz.underlying22 hf with ⟨e, _⟩ | ⟨a', len', cap', m, n, D, Pl, e, _, _, _, hm, _, hall⟩
  · have : a = none ∧ len = 0 ∧ cap = 0 := by simpa [Value.cells] using e
    obtain ⟨rfl, rfl, rfl⟩ := this
    exact .inl ⟨_, _, rfl⟩
  · have : a = some a' ∧ len = len' ∧ cap = cap' := by simpa [Value.cells] using e
    obtain ⟨rfl, rfl, rfl⟩ := this
    rcases Nat.eq_zero_or_pos len with rfl | hpos
    · exact .inl ⟨_, _, rfl⟩
    · have hlm : len ≤ m := by rw [hm]; split <;> omega
      have hat : ∀ i, i < len → ∃ n : Ent, ∀ j v, n.cells[j]? = some v → W.cell? ((a'.add (i * 11)).add j) = some v := fun i hi => by
        obtain ⟨cs, hcs, ht⟩ := hall i (by omega)
        obtain ⟨k, rfl⟩ := ent_of ht
        rw [cells34] at hcs
        obtain ⟨_, _, hc⟩ := World.cells?_some hcs
        refine ⟨k, fun j v hj => ?_⟩
        have hj' : j < 11 := (List.getElem?_eq_some_iff.1 hj).1
        rw [hc j hj', hj]
      clear hall hm
      have hsp : a'.spot = none := by
        obtain ⟨n, hn⟩ := hat 0 hpos
        have := addr_spot (hn 0 _ rfl)
        simpa [Addr.add] using this
      have hlt : a'.block < W.heap.size := by
        obtain ⟨n, hn⟩ := hat 0 hpos
        have := World.block_lt_of_cell? W _ (hn 0 _ rfl)
        rwa [addr_block, addr_block] at this
      have hsel : ∀ i : Nat, ∃ n : Ent, i < len → ∀ j v, n.cells[j]? = some v → W.cell? ((a'.add (i * 11)).add j) = some v := fun i => by
        by_cases hi : i < len
        · obtain ⟨n, hn⟩ := hat i hi; exact ⟨n, fun _ => hn⟩
        · obtain ⟨n, hn⟩ := hat 0 hpos; exact ⟨n, fun h => absurd h hi⟩
      let ns : Nat → Ent := fun i => Classical.choose (hsel i)
      have hns : ∀ i, i < len → ∀ j v, (ns i).cells[j]? = some v → W.cell? ((a'.add (i * 11)).add j) = some v := fun i => Classical.choose_spec (hsel i)
      have hl : ((List.range len).map ns).length = len := by simp
      refine .inr ⟨a'.block, a'.off, cap, (List.range len).map ns, ?_, hlt, ?_⟩
      · rw [hl]
        obtain ⟨b, o, s⟩ := a'
        dsimp only at hsp
        subst hsp
        rfl
      · intro i n hi j v hj
        have hil : i < len := by have := (List.getElem?_eq_some_iff.1 hi).1; simpa using this
        rw [List.getElem?_map, List.getElem?_range hil] at hi
        obtain rfl := Option.some.inj hi
        have := hns i hil j v hj
        rwa [addr_off hsp, addr_off (a := ⟨a'.block, a'.off + i * 11, none⟩) rfl] at this
end Go.Proofs.YtpfoifflfgiaoaaGreatDoor
namespace Go.Proofs.YtpfoifflfgiaoaaGreatDoor
open Go.ChangeShapes Go.WideShapes Go.ChangeAt Go.RowKit

theorem own : ownKnob Tryz.prog.godebug = none := by kernel_rfl
theorem laidOut : laidOutB Tryz.prog = true := by kernel_rfl

section
variable {H : Type} {enc : TypeId × Value → H} {P : Program}
theorem trodAll_stays (hl : laidOutB P = true) {W W' : World} {sp : Nat → Bool} : ∀ (ts : List TypeId) (vs : List Value) (ds : List (DataW H)) (ps : List MemPlace),
    (∀ t ∈ ts, P.readableRec t = true ∧ t < P.types.size) → DataW.TrodAll enc P W 0 (fun _ => true) true ts vs ds ps → (∀ p ∈ ps, W.sameAt W' p) → (∀ p ∈ ps, sp p.block = true) →
    DataW.TrodAll enc P W' 0 sp true ts vs ds ps
  | [], vs, ds, ps, _, h, _, _ => by
    obtain ⟨rfl, rfl, rfl⟩ := trodAll_nil h
    exact trodAll_mk0
  | t :: ts, vs, ds, ps, hr, h, hsame, hs => by
    obtain ⟨v, vs', d, ds', p, q, rfl, rfl, rfl, h0, h1⟩ := trodAll_cons h
    have r0 := hr t (by simp)
    exact trodAll_cons_mk (WideElems.Trod_stays hl r0.1 r0.2 h0 (fun x hx => hsame x (by simp [hx])) (fun x hx => hs x (by simp [hx])))
      (trodAll_stays hl ts vs' ds' q (fun x hx => hr x (by simp [hx])) h1 (fun x hx => hsame x (by simp [hx])) (fun x hx => hs x (by simp [hx])))

/-- the post of a law, behind a walk of which 'Below' is known -/
theorem law_post (hl : laidOutB P = true) {f : Func} {s : ChangeSpec} {W W' : World} {args : Array Value} {ds gs : List (DataW H)} {before : List MemPlace}
    (hr0 : (f.params.toList.all fun t => P.readableRec t && decide (t < P.types.size)) = true) {tb : TypeId} (hres : f.resultTypes = #[tb]) (hb : P.underlying tb = some .bool) (hv : s.vars = [])
    (hs : s.fn H (ds ++ gs) = { results := [.lit (.bool true)], args := ds })
    (hW : DataW.Whole enc P f.params.toList s.vars false W args.toList ds gs before) (hk : Below W.heap.size W W') :
    s.post enc P f false true false false W args (.bool true) W' := by
  have hr : ∀ t ∈ f.params.toList, P.readableRec t = true ∧ t < P.types.size := fun t ht => by
    have := List.all_eq_true.1 hr0 t ht
    simpa using this
  have hlt : ∀ p ∈ before, p.block < W.heap.size := fun p hp => hW.lt p hp
  have hW' := hW
  obtain ⟨p, q, hA, hV, rfl, hz, hn⟩ := hW
  rw [hv] at hV
  obtain ⟨rfl, rfl⟩ := trodVars_none hV
  have hargs : ∀ sp : Nat → Bool, (∀ x ∈ p ++ [], sp x.block = true) → DataW.TrodAll enc P W' 0 sp true f.params.toList args.toList ds p := fun sp hsp =>
    trodAll_stays hl _ _ _ _ hr hA (fun x hx => hk.same (hlt x (by simp [hx]))) (fun x hx => hsp x (by simp [hx]))
  have hrs : ∀ (b : Nat) (sp : Nat → Bool) (hd : Bool), DataW.TrodAll enc P W' b sp hd f.resultTypes.toList ((Value.bool true).resultList f.resultTypes.size) [.lit (.bool true)] [] := fun b sp hd => by
    rw [hres]; exact trodAll_mk1 (shut_bool hb _)
  have hok : ∀ (j : Nat) (t : TypeId) (r : Value), f.resultTypes[j]? = some t → ((Value.bool true).resultList f.resultTypes.size)[j]? = some r → Value.okWide P W' .any 0 t r :=
    ok_one hres rfl (okWide_bool_mk hb _)
  have hold : ∀ x ∈ p ++ [], (fun b => decide (b < W.heap.size)) x.block = true := fun x hx => by simpa using hlt x hx
  refine ⟨ds, [], p ++ [], [], p, [], hW', by rw [hs]; exact hrs _ _ _, by rw [hs]; exact hargs _ hold, by rw [hs, hv]; rfl,
    World.keptBut_mono (fun x hx => ⟨hx, by simpa using hx⟩) (hk.frame (· ∈ p ++ [])), fun _ => ?_⟩
  refine ⟨hok, _, [], ([] ++ p) ++ [], ⟨[] ++ p, [], trodAll_append (hargs _ (fun _ _ => rfl)) (hrs _ _ _), by rw [hv]; rfl, rfl, ?_, ?_⟩, ?_⟩
  · intro b off hp
    have hin : MemPlace.cell b off ∈ p ++ [] := by simpa using hp
    rw [hk.frozen (hlt _ hin)]
    exact hz b off hin
  · intro ha; cases ha
  · intro x hx _
    simpa using hx
end
end Go.Proofs.YtpfoifflfgiaoaaGreatDoor
namespace Go.Proofs.YtpfoifflfgiaoaaGreatDoor
open Go Go.ChangeShapes Go.WideShapes Go.ChangeAt Go.RowKit

/-- TopSticky answers true, whatever the entries -/
theorem Top_any {W : World} (hG : GOk G1 W.heap.size W) {v : Value} (hv : (∃ a c, v = .slice a 0 c) ∨ ∃ (b lo c : Nat) (es : List Ent), v = .slice (some ⟨b, lo, none⟩) es.length c ∧ EntsAt W b lo es) :
    Calls Tryz.prog 3 #[v] W fun e w' => e = .returned (.bool true) ∧ Below W.heap.size W w' := by
  have hwk : ∀ u, Below W.heap.size W u → Calls Tryz.prog 11 #[] u fun e w' => e = .returned (.bool true) ∧ Below u.heap.size u w' := fun u hu => wakes_any u (hG.below hu hu.size)
  rcases hv with ⟨a, c, rfl⟩ | ⟨b, lo, c, es, rfl, hes⟩
  · exact Top_none a c W (hG.sub sub01) hwk
  · rcases Nat.lt_or_ge 60 es.length with h | h
    · exact Top_long _ _ c h W
    · exact Top_some es h b lo c W hes (hG.sub sub01) hwk

set_option maxRecDepth 100000 in
theorem contract (H : Type) (enc : TypeId × Value → H) (W : World) (base : Nat) (args : Array Value) (ds gs : List (DataW H)) (before : List MemPlace)
    (hval : ∀ (j : Nat) t v, Tryz.f3.params[j]? = some t → args[j]? = some v → Value.okWide Tryz.prog W .any base t v)
    (hW : DataW.Whole enc Tryz.prog Tryz.f3.params.toList Rows.topStickySpec.vars false W args.toList ds gs before) (hL : laidMetH Tryz.prog Rows.topStickyRow.laid W) :
    Calls Tryz.prog 3 args W fun e W' => ∃ v, e = .returned v ∧ Rows.topStickySpec.post enc Tryz.prog Tryz.f3 false true false false W args v W' := by
  have hW' := hW
  obtain ⟨p, q, hA0, hV, rfl, hfz, hnd⟩ := hW
  have hA : DataW.TrodAll enc Tryz.prog W 0 (fun _ => true) true Tryz.f3.params.toList args.toList ds p := hA0
  rw [Tryz.params3] at hA hval
  obtain ⟨v0, vs0, d0, ds0, p0, q0, hargs, rfl, rfl, h0, r0⟩ := trodAll_cons hA
  obtain ⟨rfl, rfl, rfl⟩ := trodAll_nil r0
  obtain rfl : args = #[v0] := by cases args; simp_all
  obtain ⟨rfl, rfl⟩ := trodVars_none hV
  have hv := open_ents (hval 0 _ v0 rfl rfl) h0
  refine (Top_any (gok_row hL) hv).mono fun e W' ⟨he, hk⟩ => ?_
  subst he
  exact ⟨_, rfl, law_post laidOut (by kernel_rfl) (tb := 4) rfl Tryz.underlying4 rfl rfl hW' hk⟩

/-- A WORLD FOR THE WITNESS: the settled one, the tables laid -/
noncomputable def laidWorld (os : Os) : World := World.laidAll Tryz.prog os Rows.topStickyRow.laid
theorem laid_met (os : Os) : laidMetH Tryz.prog Rows.topStickyRow.laid ((laidWorld os).forCall (fun _ _ => 0) ⟨#[], #[.slice none 0 0], []⟩).memory := by
  rw [MakeChecks.laidMetH_plain _ _ _ (by kernel_rfl)]
  exact laidMet_laidAll _ (by kernel_rfl) (by kernel_rfl)
theorem reads (os : Os) {H : Type} (enc : TypeId × Value → H) : ∃ places, DataW.whole enc Tryz.prog ((laidWorld os).forCall (fun _ _ => 0) ⟨#[], #[.slice none 0 0], []⟩).memory Tryz.f3.params.toList Rows.topStickySpec.vars false #[Value.slice none 0 0].toList 8 = some ([.nil], [], places) :=
  ⟨[], by kernel_rfl⟩

set_option maxRecDepth 100000 in
theorem lifted (os : Os) (started : os.Started) (H : Type) (enc : TypeId × Value → H) (F : Stop.Interp) :
    ReturnsInHanded {} Tryz.checked os 3 .any ((OpenSpec.ofChange Rows.topStickySpec).preRow enc Tryz.prog Tryz.f3 Rows.topStickyRow.domain false Rows.topStickyRow.laid) (((OpenSpec.ofChange Rows.topStickySpec).at F).post enc Tryz.prog Tryz.f3 false true false false) := by
  obtain ⟨places, hx⟩ := reads os enc
  refine returnsInHanded_of_row (C := Tryz.checked) (s := OpenSpec.ofChange Rows.topStickySpec) own started (by kernel_rfl) Tryz.func3
    (witness_row_at (enc := enc) (C := Tryz.checked) false (laidWorld os) #[.slice none 0 0] (World.laidAll_os _ _ _) (by kernel_rfl) (by kernel_rfl) (by kernel_rfl)
      (OpenSpec.preRow_of_cond 8 hx (by kernel_rfl) (fun k hk => by cases hk) (by kernel_rfl) (laid_met os))) ?_
  intro W base args ds gs before hval hW _ _ _ hL _ _
  exact contract H enc W base args ds gs before hval hW hL

theorem said : Rows.TopStickySaid :=
  OpenClaim.holds_of_cond 3 Tryz.f3 rfl rfl rfl rfl rfl rfl rfl ⟨rfl, rfl, rfl, rfl, rfl⟩ rfl rfl rfl rfl rfl (by kernel_rfl) Tryz.func3 (by kernel_rfl)
    (of_decide_eq_true (by kernel_rfl)) (by unfold Func.isWrapper; first | (rw [if_pos (by decide +kernel)]; kernel_rfl) | (rw [if_neg (by decide +kernel)]; exact ⟨rfl, rfl⟩))
    (fun os started H enc _ F => by rw [OpenClaim.pre_eq_preRow]; exact lifted os started H enc F)

/-- No parameter wants a stand-in; the program's own looks are off: what the card asks. -/
theorem plain (f : FuncId) (fn : Func) (hf : Tryz.pinned.checked.prog.funcNamed "hairsbreadth/hairsbreadthtop.TopSticky" = some f) (hfn : Tryz.pinned.checked.prog.funcs[f]? = some fn) :
    true = Tryz.pinned.checked.prog.looks [] ∧ ∀ (j : Nat) t, fn.params[j]? = some t → Tryz.pinned.checked.prog.wantsStandIn t = false := by
  obtain rfl : f = 3 := Option.some.inj ((show Tryz.prog.funcNamed "hairsbreadth/hairsbreadthtop.TopSticky" = some 3 by kernel_rfl).symm.trans hf) |>.symm
  obtain rfl : fn = Tryz.f3 := (Option.some.inj (Tryz.func3.symm.trans hfn)).symm
  refine ⟨by kernel_rfl, fun j t ht => ?_⟩
  rw [Tryz.params3] at ht
  obtain rfl : t = 22 := by simpa using Array.mem_of_getElem? ht
  exact (show Tryz.prog.wantsStandIn 22 = false by kernel_rfl)

/-- THE CARD -/
theorem card : Rows.TopStickyCardSaid :=
  Claim7.holds_tied_plain_at .later [] _ _ _ _ said (fun _ h => by cases h) (by kernel_rfl) (fun _ h => by cases h) topSticky_row_tie rfl ⟨rfl, rfl⟩ (by kernel_rfl) rfl plain (by kernel_rfl)
end Go.Proofs.YtpfoifflfgiaoaaGreatDoor
