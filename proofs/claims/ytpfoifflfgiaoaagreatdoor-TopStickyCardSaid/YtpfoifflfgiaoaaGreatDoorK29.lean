/- The machine of package table; table.All. -/
import Derived.Test.YtpfoifflfgiaoaaGreatDoorK27
import Derived.Test.YtpfoifflfgiaoaaGreatDoorK28
import Derived.Laws.AppendOwn
import Derived.OwnWalk
import Derived.LoopN
set_option linter.unusedVariables false
set_option linter.unusedSimpArgs false
namespace Go.Proofs.YtpfoifflfgiaoaaGreatDoor
open Go Go.RowKit Go.MapKept

/-- an entry -/
structure Ent where
  op : Int
  f : Int
  to : Int
  m : Int
  ti : Int
  a1 : Int
  a0 : Int
  b1 : Int
  b0 : Int
  c1 : Int
  c0 : Int
  ok : EntR op f to m ti a1 a0 b1 b0 c1 c0
def Ent.val (n : Ent) : Value := .agg #[.int .u8 n.op, .int .u8 n.f, .int .u8 n.to, .int .u8 n.m, .int .u8 n.ti, .int .u64 n.a1, .int .u64 n.a0, .int .u64 n.b1, .int .u64 n.b0, .int .u64 n.c1, .int .u64 n.c0]
def Ent.may (n : Ent) : Prop := MayP n.op n.f n.to n.m n.ti n.a1 n.a0 n.b1 n.b0 n.c1 n.c0
/-- an outcome -/
structure Outc where
  E : Int
  x : Int
  y : Int
  z : Int
theorem Ent.ex (n : Ent) : ∃ o : Outc, Says Tryz.prog G0 5 [entV n.op n.f n.to n.m n.ti n.a1 n.a0 n.b1 n.b0 n.c1 n.c0] (.a [.n .i64 o.E, .n .u64 o.x, .n .u64 o.y, .n .u8 o.z]) ∧ U64 o.x ∧ U64 o.y ∧ (0 ≤ o.z ∧ o.z ≤ 255) ∧
    ((o.E = 0 ∧ n.may) ∨ (o.E = 1 ∧ ¬ n.may ∧ o.x = 0 ∧ o.y = 0 ∧ o.z = 0)) := by
  obtain ⟨E, x, y, z, h⟩ := run_any n.ok
  exact ⟨⟨E, x, y, z⟩, h⟩
noncomputable def Ent.out (n : Ent) : Outc := Classical.choose n.ex
theorem Ent.spec (n : Ent) : Says Tryz.prog G0 5 [entV n.op n.f n.to n.m n.ti n.a1 n.a0 n.b1 n.b0 n.c1 n.c0] (.a [.n .i64 n.out.E, .n .u64 n.out.x, .n .u64 n.out.y, .n .u8 n.out.z]) ∧ U64 n.out.x ∧ U64 n.out.y ∧ (0 ≤ n.out.z ∧ n.out.z ≤ 255) ∧
    ((n.out.E = 0 ∧ n.may) ∨ (n.out.E = 1 ∧ ¬ n.may ∧ n.out.x = 0 ∧ n.out.y = 0 ∧ n.out.z = 0)) := Classical.choose_spec n.ex
def Outc.val (o : Outc) : Value := .agg #[.int .i64 o.E, .int .u64 o.x, .int .u64 o.y, .int .u8 o.z]
theorem Run_ent (n : Ent) (w : World) (hw : GOk G0 w.heap.size w) : Calls Tryz.prog 5 #[n.val] w fun e w' => e = .returned n.out.val ∧ Below w.heap.size w w' := n.spec.1 e0 w hw

theorem u8_in {i : Int} (h : 0 ≤ i ∧ i ≤ 255) : IntKind.u8.min ≤ i ∧ i ≤ IntKind.u8.max := by
  have h1 : IntKind.u8.min = 0 := by decide
  have h2 : IntKind.u8.max = 255 := by decide
  omega
theorem u64_in {i : Int} (h : U64 i) : IntKind.u64.min ≤ i ∧ i ≤ IntKind.u64.max := by
  have h1 : IntKind.u64.min = 0 := by decide
  have h2 : IntKind.u64.max = 18446744073709551615 := by decide
  have := h.lo
  have := h.le
  omega
theorem i64_in01 {i : Int} (h : i = 0 ∨ i = 1) : IntKind.i64.min ≤ i ∧ i ≤ IntKind.i64.max := by rcases h with rfl | rfl <;> decide
def joinX (s t : { i : Int // IntKind.u8.min ≤ i ∧ i ≤ IntKind.u8.max }) : { i : Int // IntKind.u8.min ≤ i ∧ i ≤ IntKind.u8.max } := ⟨joinI s.1 t.1, u8_in (joinI_range s.1 t.1)⟩
noncomputable def Ent.z (n : Ent) : { i : Int // IntKind.u8.min ≤ i ∧ i ≤ IntKind.u8.max } := ⟨n.out.z, u8_in n.spec.2.2.2.1⟩
theorem Ent.E01 (n : Ent) : n.out.E = 0 ∨ n.out.E = 1 := n.spec.2.2.2.2.imp (·.1) (·.1)
noncomputable def Ent.outX (n : Ent) : AV := .a [.x .i64 ⟨n.out.E, i64_in01 n.E01⟩, .x .u64 ⟨n.out.x, u64_in n.spec.2.1⟩, .x .u64 ⟨n.out.y, u64_in n.spec.2.2.1⟩, .x .u8 n.z]
def Ent.valX (n : Ent) : AV := .a [.x .u8 ⟨n.op, u8_in n.ok.op⟩, .x .u8 ⟨n.f, u8_in n.ok.f⟩, .x .u8 ⟨n.to, u8_in n.ok.to⟩, .x .u8 ⟨n.m, u8_in n.ok.m⟩, .x .u8 ⟨n.ti, u8_in n.ok.ti⟩, .x .u64 ⟨n.a1, u64_in n.ok.a1⟩, .x .u64 ⟨n.a0, u64_in n.ok.a0⟩, .x .u64 ⟨n.b1, u64_in n.ok.b1⟩, .x .u64 ⟨n.b0, u64_in n.ok.b0⟩, .x .u64 ⟨n.c1, u64_in n.ok.c1⟩, .x .u64 ⟨n.c0, u64_in n.ok.c0⟩]
noncomputable def orcD (n : Ent) : Orc := fun f args h =>
  if f = 5 then match args with
    | [.a [.x .u8 op, .x .u8 f, .x .u8 to, .x .u8 m, .x .u8 ti, .x .u64 a1, .x .u64 a0, .x .u64 b1, .x .u64 b0, .x .u64 c1, .x .u64 c0]] =>
      some (n.outX, [op.1 == n.op, f.1 == n.f, to.1 == n.to, m.1 == n.m, ti.1 == n.ti, a1.1 == n.a1, a0.1 == n.a0, b1.1 == n.b1, b0.1 == n.b0, c1.1 == n.c1, c0.1 == n.c0])
    | _ => none
  else if f = 7 then match args with
    | [.s k 0 2 _] => match h[k]? with
      | some b => match b.seen with
        | some (.x .u8 s :: .x .u8 t :: _) => some (.x .u8 (joinX s t), [])
        | _ => none
      | none => none
    | _ => none
  else none
theorem orcD_ok (n : Ent) {B : Nat} {W : World} (hG : GOk G0 B W) : OrcOk Tryz.prog B W (orcD n) := by
  intro f args h r ob hr ho e w hs hb
  unfold orcD at hr
  split at hr
  · rename_i hf; subst hf
    split at hr <;> try cases hr
    simp only [List.mem_cons, List.not_mem_nil, or_false, forall_eq_or_imp, forall_eq, beq_iff_eq] at ho
    obtain ⟨g0, g1, g2, g3, g4, g5, g6, g7, g8, g9, g10⟩ := ho
    have := Run_ent n w (hG.below hb hs.size)
    simp only [denL, AV.den, g0, g1, g2, g3, g4, g5, g6, g7, g8, g9, g10]
    exact this
  split at hr
  · rename_i hf; subst hf
    split at hr <;> try cases hr
    rename_i k c
    split at hr <;> try cases hr
    rename_i b hk
    split at hr <;> try cases hr
    rename_i s t l hl
    have h0 := seen_cell hs hk hl 0 _ rfl
    have h1 := seen_cell hs hk hl 1 _ rfl
    exact (Join_any (e.β k) _ s.1 t.1 w h0 h1).mono fun en w' h => h
  · cases hr
noncomputable def doQ (n : Ent) (s : { i : Int // IntKind.u8.min ≤ i ∧ i ≤ IntKind.u8.max }) := callB Tryz.prog (orcD n) (exec Tryz.prog ext0 (orcD n) (drawnA Tryz.prog ext0) 3000) 6 [.p 0 0, n.valX] [.cells 46 (0, 0) [.x .u8 s]] []
theorem doQ_eq (n : Ent) (s : { i : Int // IntKind.u8.min ≤ i ∧ i ≤ IntKind.u8.max }) : doQ n s = some (n.outX, [.cells 46 (0, 0) [.x .u8 (joinX s n.z)]], [], [n.op == n.op, n.f == n.f, n.to == n.to, n.m == n.m, n.ti == n.ti, n.a1 == n.a1, n.a0 == n.a0, n.b1 == n.b1, n.b0 == n.b0, n.c1 == n.c1, n.c0 == n.c0], [0]) := by kernel_rfl
/-- Do of an entry: its outcome; the flags that stick -/
theorem Do_any (n : Ent) {s : Int} (hs : 0 ≤ s ∧ s ≤ 255) {b : Nat} (w : World) (hb : w.heap[b]? = some (.cells #[.int .u8 s] 46 (0, 0))) (hG : GOk G0 b w) :
    Calls Tryz.prog 6 #[.pointer (some ⟨b, 0, none⟩), n.val] w fun e w' => e = .returned n.out.val ∧ w'.heap[b]? = some (.cells #[.int .u8 (joinI s n.out.z)] 46 (0, 0)) ∧ Save b w.heap.size w w' := by
  have hlt : b < w.heap.size := (Array.getElem?_eq_some_iff.1 hb).1
  have hor := orcD_ok n hG
  have hcl := callB_ok (P := Tryz.prog) (B := b) (W := w) hor (exec_ok (x := ext0) ext0_ok noNG hor (drawn_ok ext0_ok noNG) 3000).1
  have hsr : SR ⟨fun _ => b, fun _ => 0⟩ b [.cells 46 (0, 0) [.x .u8 ⟨s, u8_in hs⟩]] w := by
    refine ⟨by omega, fun k x hx => ?_, fun k k' x x' hx hx' h1 h2 hne => ?_, fun k x hx => ?_⟩
    · match k, hx with
      | 0, hx =>
        obtain rfl := Option.some.inj hx
        exact ⟨Nat.le_refl _, hb⟩
      | k + 1, hx => cases hx
    · match k, k', hx, hx' with
      | 0, 0, _, _ => exact absurd rfl hne
      | 0, k + 1, _, hx' => cases hx'
      | k + 1, _, hx, _ => cases hx
    · match k, hx with
      | 0, hx => obtain rfl := Option.some.inj hx; rfl
      | k + 1, hx => cases hx
  have := hcl _ _ _ _ _ _ _ _ _ (doQ_eq n ⟨s, u8_in hs⟩) (by simp) ⟨fun _ => b, fun _ => 0⟩ w hsr (by rfl) (Below.refl _ _)
  refine this.mono ?_
  rintro en w' ⟨e', rfl, h1, h2⟩
  have b0 := h1.blk 0 _ rfl
  simp only [BR] at b0
  have a0 : e'.β 0 = b := by rw [← (h2.agr 0 (by rfl)).1]
  rw [a0] at b0
  refine ⟨rfl, b0.2, ⟨h2.fr.os, h2.fr.tape, h2.fr.output, h2.fr.size, fun k hk hne => h2.fr.block k hk fun j hj hjd => ?_⟩⟩
  exact fun h => hne h.symm
theorem New_any (w : World) : Calls Tryz.prog 4 #[] w fun e w' => e = .returned (.pointer (some ⟨w.heap.size, 0, none⟩)) ∧ w' = w.alloc (.cells #[.int .u8 0] 46) := by
  go_enter Tryz.func4, Tryz.ntmps4
  go_wp2
  go_ret
  exact ⟨rfl, rfl⟩
theorem Sticky_any {s : Int} {b : Nat} (w : World) (hb : w.cell? ⟨b, 0, none⟩ = some (.int .u8 s)) : Calls Tryz.prog 8 #[.pointer (some ⟨b, 0, none⟩)] w fun e w' => e = .returned (.int .u8 s) ∧ w = w' := by
  go_enter Tryz.func8, Tryz.ntmps8
  go_wp2
  go_ret
  exact ⟨rfl, rfl⟩
end Go.Proofs.YtpfoifflfgiaoaaGreatDoor
namespace Go.Proofs.YtpfoifflfgiaoaaGreatDoor
open Go Go.RowKit Go.MapKept

/-- the flags behind the first k entries -/
noncomputable def stk (es : List Ent) : Nat → Int
  | 0 => 0
  | k + 1 => match es[k]? with
    | some n => joinI (stk es k) n.out.z
    | none => stk es k
theorem stk_range (es : List Ent) : ∀ k, 0 ≤ stk es k ∧ stk es k ≤ 255
  | 0 => by unfold stk; omega
  | k + 1 => by
    unfold stk
    split
    · exact joinI_range _ _
    · exact stk_range es k
theorem stk_succ {es : List Ent} {k : Nat} (hk : k < es.length) : stk es (k + 1) = joinI (stk es k) es[k].out.z := by
  conv => lhs; unfold stk
  rw [List.getElem?_eq_getElem hk]
def Ent.cells (n : Ent) : List Value := [.int .u8 n.op, .int .u8 n.f, .int .u8 n.to, .int .u8 n.m, .int .u8 n.ti, .int .u64 n.a1, .int .u64 n.a0, .int .u64 n.b1, .int .u64 n.b0, .int .u64 n.c1, .int .u64 n.c0]
/-- a row of entries in memory -/
def EntsAt (w : World) (b lo : Nat) (es : List Ent) : Prop := b < w.heap.size ∧ ∀ i n, es[i]? = some n → ∀ j v, n.cells[j]? = some v → w.cell? ⟨b, lo + i * 11 + j, none⟩ = some v

theorem info31 : (Tryz.prog.info? 31).map (fun i => (i.zero, i.size, i.bytes)) = some (some (.agg #[.int .i64 0, .int .u64 0, .int .u64 0, .int .u8 0]), 4, 32) := by kernel_rfl
theorem GOk.stay {G : Glob} {B : Nat} {W w : World} (h : GOk G B W) (hb : Below B W w) : GOk G B w := fun g hg =>
  ⟨(h g hg).1, fun i v hv => by rw [World.cell?_of_block (w := W) (hb.block _ (h g hg).1)]; exact (h g hg).2 i v hv⟩
theorem Save.grownBy {b : Nat} {w w' : World} (h : Save b w.heap.size w w') : w.grownBy w' (some b) := ⟨h.os, h.tape, h.output, h.size, fun k hk hne => h.block k hk fun e => hne (by rw [e])⟩
theorem below_save {n b m : Nat} {w A B : World} (h : Below n w A) (k : Save b m A B) (hm : n ≤ m) (hb : n ≤ b) : Below n w B :=
  ⟨k.os.trans h.os, k.tape.trans h.tape, k.output.trans h.output, Nat.le_trans h.size k.size, fun q hq => (k.block q (by omega) (by omega)).trans (h.block q hq)⟩
theorem own_ne {w : World} {b : Nat} {e : TypeId} {size : Nat} {v : Value} {n : Nat} {xs : List Value} (h : w.ownsRow (b + 1) e size v n xs) : v.ownBlock = none ∨ v.ownBlock ≠ some b := by
  cases hv : v.ownBlock with
  | none => exact .inl rfl
  | some k =>
    have := (h.lt k hv).1
    exact .inr fun e => by obtain rfl := Option.some.inj e; omega
set_option maxRecDepth 100000 in
set_option maxHeartbeats 4000000 in
theorem All_some (es : List Ent) (h60 : es.length ≤ 60) (b lo c : Nat) (w : World) (hl : EntsAt w b lo es) (hG : GOk G0 w.heap.size w) :
    Calls Tryz.prog 10 #[.slice (some ⟨b, lo, none⟩) es.length c] w fun e w' => ∃ p n q, e = .returned (.tuple #[.slice p n q, .int .u8 (stk es es.length)]) ∧ n = es.length ∧ Below w.heap.size w w' := by
  obtain ⟨hblt, hcell⟩ := hl
  obtain ⟨i0, hi, hz0, hz1, hz2⟩ := info_parts info31
  go_enter Tryz.func10, Tryz.ntmps10
  go_wp2_with (first
    | (go_at_call 4; refine (New_any _).mono ?_; rintro e w' ⟨rfl, rfl⟩))
  go_loopw [5, 11] (fun v i wr => ∃ (k : Nat) (xs : List Value), k ≤ es.length ∧ i = .int .i64 k ∧ wr.ownsRow (w.heap.size + 1) 31 4 v k xs ∧ wr.heap[w.heap.size]? = some (.cells #[.int .u8 (stk es k)] 46 (0, 0)) ∧ Below w.heap.size w wr)
    (fun _ i _ => es.length - (intOf i).toNat)
  case atStart => exact ⟨0, [], Nat.zero_le _, rfl, World.ownsRow_nil _ _ _ _, heap_new _ _, (Below.refl _ w).alloc (Nat.le_refl _) _⟩
  case round =>
    obtain ⟨k, xs, hk, rfl, hown, hm, hbel⟩ := hrel
    by_cases hlt : k < es.length
    · have hn := List.getElem?_eq_getElem hlt
      have hc : ∀ j v, es[k].cells[j]? = some v → wr.cell? ⟨b, lo + k * 11 + j, none⟩ = some v := fun j v hv => (World.cell?_of_block (w := w) (hbel.block b hblt)).trans (hcell k _ hn j v hv)
      have c0 : wr.cell? ⟨b, lo + k * 11, none⟩ = _ := hc 0 _ rfl
      have c1 := hc 1 _ rfl
      have c2 := hc 2 _ rfl
      have c3 := hc 3 _ rfl
      have c4 := hc 4 _ rfl
      have c5 := hc 5 _ rfl
      have c6 := hc 6 _ rfl
      have c7 := hc 7 _ rfl
      have c8 := hc 8 _ rfl
      have c9 := hc 9 _ rfl
      have c10 := hc 10 _ rfl
      clear hc hcell
      have hzr : w.heap.size < wr.heap.size := (Array.getElem?_eq_some_iff.1 hm).1
      have hsucc := stk_succ hlt
      generalize es[k] = n at *
      have hG1 : GOk G0 w.heap.size (wr.alloc (.cells #[.int .u8 n.op, .int .u8 n.f, .int .u8 n.to, .int .u8 n.m, .int .u8 n.ti, .int .u64 n.a1, .int .u64 n.a0, .int .u64 n.b1, .int .u64 n.b0, .int .u64 n.c1, .int .u64 n.c0] 34)) := hG.stay (hbel.alloc (by omega) _)
      have hm1 : (wr.alloc (.cells #[.int .u8 n.op, .int .u8 n.f, .int .u8 n.to, .int .u8 n.m, .int .u8 n.ti, .int .u64 n.a1, .int .u64 n.a0, .int .u64 n.b1, .int .u64 n.b0, .int .u64 n.c1, .int .u64 n.c0] 34)).heap[w.heap.size]? = some (.cells #[.int .u8 (stk es k)] 46 (0, 0)) := (Below.heap_alloc _ _ _ hzr).trans hm
      have hown1 := hown.alloc (.cells #[.int .u8 n.op, .int .u8 n.f, .int .u8 n.to, .int .u8 n.m, .int .u8 n.ti, .int .u64 n.a1, .int .u64 n.a0, .int .u64 n.b1, .int .u64 n.b0, .int .u64 n.c1, .int .u64 n.c0] 34)
      have hbel1 := hbel.alloc (by omega : w.heap.size ≤ wr.heap.size) (.cells #[.int .u8 n.op, .int .u8 n.f, .int .u8 n.to, .int .u8 n.m, .int .u8 n.ti, .int .u64 n.a1, .int .u64 n.a0, .int .u64 n.b1, .int .u64 n.b0, .int .u64 n.c1, .int .u64 n.c0] 34)
      go_wp2_with (first
        | (go_at_call 6; refine (Do_any n (stk_range es k) _ hm1 hG1).mono ?_; rintro e w3 ⟨he, hm3, hs3⟩; obtain rfl : e = .returned (.agg #[.int .i64 n.out.E, .int .u64 n.out.x, .int .u64 n.out.y, .int .u8 n.out.z]) := he; have hown3 := hown1.kept (row := some w.heap.size) hs3.grownBy (own_ne hown1))
        | (at_builtin; refine wpList_append_own _ rfl _ _ 38 rfl (w.heap.size + 1) 31 i0 (.agg #[.int .i64 0, .int .u64 0, .int .u64 0, .int .u8 0]) 4 32 Tryz.underlying38 hi hz0 hz1 hz2 rfl (by decide) _ _ _ rfl (hown3.alloc _) ⟨w3.heap.size, 0, none⟩ 1 1 [.int .i64 n.out.E, .int .u64 n.out.x, .int .u64 n.out.y, .int .u8 n.out.z] rfl rfl ?c1 ?c2 ?c3 ?c4 ?c5 ?_))
      case c1 =>
        intro j u hj
        rw [add_none, Nat.zero_add, cell_heap (heap_new w3 _)]
        simpa using hj
      case c2 =>
        intro u hu
        simp only [List.mem_cons, List.not_mem_nil, or_false] at hu
        rcases hu with rfl | rfl | rfl | rfl <;> rfl
      case c3 => unfold maxLen; omega
      case c4 => omega
      case c5 => have := hs3.size; simp only [World.size_alloc] at this ⊢; omega
      intro v' w5 hown5 hgrow _
      have hz3 := hs3.size
      simp only [World.size_alloc] at hz3
      have hb3 : Below w.heap.size w w3 := below_save hbel1 hs3 (by simp only [World.size_alloc]; omega) (Nat.le_refl _)
      have hb4 := hb3.alloc (by omega : w.heap.size ≤ w3.heap.size) (.cells #[.int .i64 n.out.E, .int .u64 n.out.x, .int .u64 n.out.y, .int .u8 n.out.z] 31)
      have hb5 : Below w.heap.size w w5 := hb4.grown hgrow (by simp only [World.size_alloc]; omega) (fun q hq => by have := (hown3.lt q hq).1; omega)
      have hm5 : w5.heap[w.heap.size]? = some (.cells #[.int .u8 (stk es (k + 1))] 46 (0, 0)) := by
        rw [hgrow.block w.heap.size (by simp only [World.size_alloc]; omega) (fun q => by have := (hown3.lt _ q.symm).1; omega), Below.heap_alloc _ _ _ (by omega), hm3, hsucc]
      clear hm3 hs3 hown3 hown1 hm1 hG1 hbel1 hb3 hb4 c0 c1 c2 c3 c4 c5 c6 c7 c8 c9 c10
      go_wp2
      go_roundw
      case rel => exact ⟨k + 1, _, by omega, by simp, hown5, hm5, hb5⟩
      case measure => simp [intOf]; omega
    · have hkn : k = es.length := by omega
      subst hkn
      have hst : wr.cell? ⟨w.heap.size, 0, none⟩ = some (.int .u8 (stk es es.length)) := by rw [cell_heap hm]; rfl
      clear hk hlt
      go_wp2_with (first
        | (go_at_call 8; refine (Sticky_any _ hst).mono ?_; rintro e w' ⟨rfl, rfl⟩))
      go_ret2
      rcases hown.2 with ⟨rfl, h0⟩ | ⟨g, cap, cur, rfl, _⟩
      · exact ⟨none, 0, 0, rfl, h0.symm, hbel⟩
      · exact ⟨_, _, _, rfl, rfl, hbel⟩
theorem All_none (a : Option Addr) (c : Nat) (w : World) : Calls Tryz.prog 10 #[.slice a 0 c] w fun e w' => e = .returned (.tuple #[.slice none 0 0, .int .u8 0]) ∧ Below w.heap.size w w' := by
  go_enter Tryz.func10, Tryz.ntmps10
  go_wp2_with (first
    | (go_at_call 4; refine (New_any _).mono ?_; rintro e w' ⟨rfl, rfl⟩))
  refine wp_loop_rounds 1 ?_
  rw [rounds_succ]
  go_wp2_with (first
    | (go_at_call 8; refine (Sticky_any (s := 0) _ (by go_simp)).mono ?_; rintro e w' ⟨rfl, rfl⟩))
  go_ret2
  exact ⟨rfl, (Below.refl _ w).alloc (Nat.le_refl _) _⟩
end Go.Proofs.YtpfoifflfgiaoaaGreatDoor
