/- Package flag: the names, as script tells them. -/
import Derived.Test.YtpfoifflfgiaoaaGreatDoorK28
import Derived.Test.YtpfoifflfgiaoaaGreatDoorK14
import Derived.Test.YtpfoifflfgiaoaaGreatDoorK01
import Derived.LoopNIn
import Derived.Test.YtpfoifflfgiaoaaGreatDoorRows
import Derived.WalkKit
import Derived.Tactics
import Derived.Tactics2
import Derived.Defers
import Derived.Recover
import Derived.Below
import Derived.Laws.Pointers
set_option linter.unusedVariables false
set_option linter.unusedSimpArgs false
namespace Go.Proofs.YtpfoifflfgiaoaaGreatDoor
open Go Go.RowKit Go.MapKept Go.Shelf
attribute [local go_sem] Oper.semAt_some

/-- of the set of the last flag: just that one comes -/
theorem each_last (F : Fence) (n : Nat) (h7 : F.fn 26) (hro : F.round = none) (hn : 1 ≤ n) (b : Nat) (w : World) (hb : w.cell? ⟨b, 0, none⟩ = some (.int .u8 16)) :
    SeqStopsK F n Tryz.prog 26 #[.pointer (some ⟨b, 0, none⟩)] (fun _ : Unit => #[Value.int .i64 4, Value.int .u8 16]) (KeepB b) (fun ys => ys = [()]) (fun _ => True) 1 w := fun l J Jx W hW _ _ hY h0 => by
  have hlt : b < w.heap.size := World.block_lt_of_cell? w ⟨b, 0, none⟩ hb
  have f5 : fls 16 5 = [(4 : Fin 5)] := by decide
  have f4 : fls 16 4 = [] := by decide
  refine (each1_in F n h7 hro hn l b 16 (fun pre W => J (pre.map fun _ => ()) W) (fun pre W => Jx (pre.map fun _ => ()) W) (fun k hk hbit W hJ => ?_) W ((World.cell?_of_block (w := w) (hW.block b hlt)).trans hb) h0).mono ?_
  · have : k = 4 := by
      rcases (by omega : k = 0 ∨ k = 1 ∨ k = 2 ∨ k = 3 ∨ k = 4) with rfl | rfl | rfl | rfl | rfl
      · exact absurd hbit (by decide)
      · exact absurd hbit (by decide)
      · exact absurd hbit (by decide)
      · exact absurd hbit (by decide)
      · rfl
    subst this
    rw [f4] at hJ ⊢
    exact hY [] () W hJ (by decide)
  · rintro e W' ⟨he, h⟩
    refine ⟨he, ?_⟩
    rcases h with ⟨ys, rfl, h⟩ | ⟨pre, _, h⟩
    · rw [f5] at h
      exact .inl ⟨_, rfl, h⟩
    · exact .inr ⟨_, trivial, h⟩

/-- the five names -/
def namesL : List AV := [.v (.string ⟨#[105, 110, 118, 97, 108, 105, 100]⟩), .v (.string ⟨#[100, 105, 118, 122, 101, 114, 111]⟩), .v (.string ⟨#[111, 118, 101, 114, 102, 108, 111, 119]⟩), .v (.string ⟨#[117, 110, 100, 101, 114, 102, 108, 111, 119]⟩), .v (.string ⟨#[105, 110, 101, 120, 97, 99, 116]⟩)]
def nmOps : Array Oper :=
      #[{ dst := some 9, op := Op.load 139 (Operand.tmp 3), type := 139, pos := "flag.go:44", after := #[],
          guard := none },
        { dst := some 10, op := Op.move (Operand.tmp 4), type := 3, pos := "flag.go:44", after := #[], guard := none },
        { dst := some 11, op := Op.indexAddr 86 (Operand.global 4) (Operand.tmp 10), type := 0, pos := "flag.go:44",
          after := #[{ on := 1, ground := Ground.data }], guard := none },
        { dst := some 12, op := Op.load 9 (Operand.tmp 11), type := 9, pos := "flag.go:44",
          after := #[{ on := 2, ground := Ground.data }], guard := none },
        { dst := some 13, op := Op.buildSlice 139 1 #[(0, Operand.tmp 12)], type := 139, pos := "flag.go:44",
          after := #[{ on := 3, ground := Ground.data }], guard := none },
        { dst := some 14,
          op :=
            Op.call
              { callee := Callee.builtin Builtin.append, args := #[Operand.tmp 9, Operand.tmp 13],
                argTypes := #[139, 139] },
          type := 139, pos := "flag.go:44",
          after := #[{ on := 0, ground := Ground.data }, { on := 4, ground := Ground.data }], guard := none },
        { dst := none, op := Op.store 139 (Operand.tmp 3) (Operand.tmp 14), type := 0, pos := "flag.go:44",
          after :=
            #[{ on := 5, ground := Ground.data }, { on := 5, ground := Ground.chain },
              { on := 0, ground := Ground.phase }, { on := 1, ground := Ground.phase },
              { on := 2, ground := Ground.phase }, { on := 3, ground := Ground.phase },
              { on := 4, ground := Ground.phase }, { on := 5, ground := Ground.phase }],
          guard := none }]
def nmS (p q : Value) : St := ⟨[.n .u8 16, .v undef, .v (.slice none 0 0), .p 1 0, .n .i64 4, .n .u8 16, .v p, .n .i64 4, .n .u8 16, .v undef, .v undef, .v undef, .v undef, .v undef, .v undef, .v undef], [.ro 4 namesL, .cells 139 (0, 0) [.v (.slice none 0 0)]], []⟩
def blkAt (l : List Blk) (k : Nat) : Option Blk := l[k]?
def nmK (o : Option Go.Proofs.YtpfoifflfgiaoaaGreatDoor.Rs) : Option Nat := match o with
  | some rs => match blkAt rs.s.h 1 with
    | some (Blk.cells t fz [AV.s k 0 1 none]) => if t = 139 ∧ fz = (0, 0) ∧ rs.ob.all id = true ∧ rs.d.filter (lt 2) = [1] then some k else none
    | _ => none
  | none => none
theorem nm_run (p q : Value) : nmK (drawnA Tryz.prog (fun _ _ => none) (fun _ _ _ _ => none) nmOps (nmS p q)) = some 3 := by kernel_rfl
def nmX (o : Option Go.Proofs.YtpfoifflfgiaoaaGreatDoor.Rs) (k : Nat) : Option AV := match o with
  | some rs => match blkAt rs.s.h k with
    | some b => match b.seen with
      | some (x :: _) => some x
      | _ => none
    | none => none
  | none => none
theorem nm_val (p q : Value) : nmX (drawnA Tryz.prog (fun _ _ => none) (fun _ _ _ _ => none) nmOps (nmS p q)) 3 = some (.v (.string ⟨#[105, 110, 101, 120, 97, 99, 116]⟩)) := by kernel_rfl
theorem clOk_none {P : Program} {B : Nat} {W : World} : ClOk P B W (fun _ _ _ _ => none) := fun _ _ _ _ _ _ _ _ _ h => by cases h
theorem ends_noLets {P : Program} {B : Nat} {W w : World} {e : Env} {n : Nat} {s : St} {d : List Nat} : ¬ LetsOut (Ends P B W e n w .normal s d) := by
  rintro ⟨a, w', h⟩
  cases h.1
def lastName : Value := .string ⟨#[105, 110, 101, 120, 97, 99, 116]⟩
theorem names_body (l n o : Nat) (p q : Value) (W : World) (Q : Exit → Act → World → Prop) (ho : W.heap[o]? = some (.cells #[.slice none 0 0] 139 (0, 0))) (hg : ∀ (i : Nat) v, (denL ⟨fun _ => 0, fun _ => 0⟩ namesL)[i]? = some v → W.cell? ⟨4, i, none⟩ = some v) (h4 : 4 < o)
    (hQ : ∀ a' W' b c, W'.heap[o]? = some (.cells #[.slice (some ⟨b, 0, none⟩) 1 c] 139 (0, 0)) → W'.cell? ⟨b, 0, none⟩ = some lastName → Save o W.heap.size W W' → Q .normal a' W') :
    (Code.region 4 nmOps true).wpIn (Fence.wide.inRound l) n Tryz.prog Q { tmps := (denL ⟨fun k => if k = 0 then 4 else o, fun _ => 0⟩ (nmS p q).tm).toArray, defers := [] } W := by
  have hlt : o < W.heap.size := (Array.getElem?_eq_some_iff.1 ho).1
  have key := nm_run p q
  have kval := nm_val p q
  cases hd : drawnA Tryz.prog (fun _ _ => none) (fun _ _ _ _ => none) nmOps (nmS p q) with
  | none => rw [hd] at key; cases key
  | some rs =>
    rw [hd] at key kval
    unfold nmK at key
    simp only at key
    split at key <;> try cases key
    rename_i t fz k hb
    split at key <;> try cases key
    rename_i hh
    obtain ⟨rfl, rfl, hob, hdd⟩ := hh
    unfold nmX at kval
    simp only at kval
    split at kval <;> try cases kval
    rename_i b3 hb3
    split at kval <;> try cases kval
    rename_i tl hseen
    unfold blkAt at hb hb3
    have hst : StR Tryz.prog ⟨fun k => if k = 0 then 4 else o, fun _ => 0⟩ o W (nmS p q) { tmps := (denL ⟨fun k => if k = 0 then 4 else o, fun _ => 0⟩ (nmS p q).tm).toArray, defers := [] } W := by
      refine ⟨rfl, fun d hd => (by cases hd), (by rfl), ⟨by omega, fun k b hb => ?_, fun k k' b b' hb hb' h1 h2 hne => ?_, fun k b hb => ?_⟩, Below.refl _ _⟩
      · match k, hb with
        | 0, hb =>
          obtain rfl := Option.some.inj hb
          exact ⟨rfl, h4, fun i v hv => hg i v hv⟩
        | 1, hb =>
          obtain rfl := Option.some.inj hb
          exact ⟨Nat.le_refl _, ho⟩
        | k + 2, hb => cases hb
      · match k, k', hb, hb' with
        | 0, _, hb, _ => obtain rfl := Option.some.inj hb; cases h1
        | 1, 0, _, hb' => obtain rfl := Option.some.inj hb'; cases h2
        | 1, 1, _, _ => exact absurd rfl hne
        | k + 2, _, hb, _ => cases hb
        | 1, k + 2, _, hb' => cases hb'
      · match k, hb with
        | 0, hb => obtain rfl := Option.some.inj hb; rfl
        | 1, hb => obtain rfl := Option.some.inj hb; rfl
        | k + 2, hb => cases hb
    obtain ⟨hm, hany⟩ := drawn_any (x := fun _ _ => none) ⟨fun _ _ _ _ _ _ _ _ h => (by cases h), fun _ _ _ _ _ _ _ _ h => (by cases h)⟩ noNG clOk_none hd (fun b hb => by have := List.all_eq_true.1 hob b hb; exact this) hst
    refine wpIn_mono (wpIn_region_any hm (wpAny_round (by rfl) ends_noLets _ _ _ _ hany)) ?_
    rintro ex a' w' ⟨rfl, e', hs, hpo⟩
    have b1 := hs.sr.blk 1 _ hb
    simp only [BR] at b1
    have a1 := (hpo.agr 1 (by rfl)).1
    have a1 : e'.β 1 = o := by rw [← a1]; rfl
    refine hQ a' w' (e'.β 3) (e'.κ 3) (by have := b1.2; rw [a1] at this; exact this) (seen_cell hs.sr hb3 hseen 0 _ rfl) ⟨hpo.fr.os, hpo.fr.tape, hpo.fr.output, hpo.fr.size, fun k hk hne => hpo.fr.block k hk fun j hj hjd => ?_⟩
    have hj2 : j = 1 := by
      have : j ∈ rs.d.filter (lt 2) := List.mem_filter.2 ⟨hjd, lt_iff.2 hj⟩
      rw [hdd] at this
      simpa using this
    subst hj2
    exact fun h => hne (by rw [← h]; rfl)
set_option maxRecDepth 100000 in
set_option maxHeartbeats 2000000 in
theorem names_in (w : World) (hg : ∀ (i : Nat) v, (denL ⟨fun _ => 0, fun _ => 0⟩ namesL)[i]? = some v → w.cell? ⟨4, i, none⟩ = some v) :
    CallsIn Fence.wide 3 Tryz.prog 253 #[.int .u8 16] w fun e w' => ∃ b c, e = .returned (.slice (some ⟨b, 0, none⟩) 1 c) ∧ w'.cell? ⟨b, 0, none⟩ = some lastName ∧ Below w.heap.size w w' := by
  have hro : Fence.wide.round = none := rfl
  have h5 : Fence.wide.fn 14 := trivial
  have h6 : Fence.wide.fn 26 := trivial
  have hg4 : 4 < w.heap.size := World.block_lt_of_cell? w ⟨4, 0, none⟩ (hg 0 _ rfl)
  refine callsIn_of_wp_marks Tryz.func253 rfl trivial ?_ hro
  simp only [Tryz.ntmps253, List.size_toArray, List.length_cons, List.length_nil, Nat.reduceAdd, Nat.reduceSub, Array.replicate_succ, Array.replicate_zero, List.push_toArray, List.append_toArray, List.nil_append, List.cons_append]
  gi_wp2_with (gi_at_call 14; refine (each_in Fence.wide _ h5 hro _ _).mono ?_; rintro e w' ⟨rfl, rfl⟩)
  have hz2 : ((w.alloc (.cells #[.slice none 0 0] 139)).alloc (.cells #[.int .u8 16] 25)).heap.size = w.heap.size + 1 + 1 := by simp
  refine wpIn_rangeFunc_ownF hro (by omega) (gf := 26) (lb := #[.pointer (some ⟨w.heap.size + 1, 0, none⟩)]) (by simp [Act.eval]) h6 (enters_of Tryz.func26 (by kernel_rfl) rfl)
    (each_last Fence.wide _ h6 hro (by omega) (w.heap.size + 1) _ (by go_simp)) keepB_t (keepB_b (by simp)) (Below.refl _ _) (fun _ => rfl)
    (fun pre W => (pre = [] → W.heap[w.heap.size]? = some (.cells #[.slice none 0 0] 139 (0, 0))) ∧ (pre = [()] → ∃ b c, W.heap[w.heap.size]? = some (.cells #[.slice (some ⟨b, 0, none⟩) 1 c] 139 (0, 0)) ∧ W.cell? ⟨b, 0, none⟩ = some lastName) ∧ Save w.heap.size (w.heap.size + 1 + 1) ((w.alloc (.cells #[.slice none 0 0] 139)).alloc (.cells #[.int .u8 16] 25)) W)
    (fun _ _ _ => False)
    (fun pre A B row hs hg hr => by
      have hA : w.heap.size < A.heap.size := by have := hs.2.2.size; omega
      have hk : B.heap[w.heap.size]? = A.heap[w.heap.size]? := hg.block _ hA fun e => by have := (hr _ e.symm).1; omega
      exact ⟨fun e => hk.trans (hs.1 e), fun e => by obtain ⟨b, c, h1, h2⟩ := hs.2.1 e; exact ⟨b, c, hk.trans h1, cell_kept h2 hg fun r e => (hr r e).2⟩, hs.2.2.grown (by omega) hg fun r e => by have := (hr r e).1; omega⟩)
    (fun _ _ _ _ _ hs _ _ => hs)
    ⟨fun _ => (by rw [Below.heap_alloc _ _ _ (by simp)]; exact heap_new _ _), fun h => (by cases h), Save.refl _ _ _⟩
    ?a1 ?assign ?body ?done ?stop
  case assign =>
    intro l x W K hK
    gi_wp2
    exact hK
  case body =>
    rintro l pre x W ⟨hnil, _, hsv⟩ hlen
    have hp : pre = [] := List.eq_nil_of_length_eq_zero (by omega)
    subst hp
    have hc := hnil rfl
    have hg' : ∀ (i : Nat) v, (denL ⟨fun _ => 0, fun _ => 0⟩ namesL)[i]? = some v → W.cell? ⟨4, i, none⟩ = some v := fun i v hv => by
      rw [World.cell?_of_block (w := w) (show W.heap[4]? = w.heap[4]? by rw [hsv.block 4 (by omega) (by omega), Below.heap_alloc _ _ _ (by simp; omega), Below.heap_alloc _ _ _ hg4])]
      exact hg i v hv
    refine wpIn_block ?_
    refine names_body l _ w.heap.size (.func (.func 26) #[] #[.pointer (some ⟨w.heap.size + 1, 0, none⟩)]) (.int .u8 0) W _ hc hg' hg4 fun a' W' b c h1 h2 h3 => ?_
    refine ⟨⟨h3.size, fun k o hk hn => ?_⟩, h3.block _ (by have := hsv.size; omega) (by omega), fun h => (by cases h), fun _ => ⟨b, c, h1, h2⟩, ?_⟩
    · have hne : k ≠ w.heap.size := fun e => by
        subst e
        rw [hc] at hk
        obtain rfl := Option.some.inj hk
        cases hn
      rw [h3.block k (Array.getElem?_eq_some_iff.1 hk).1 hne]; exact hk
    · exact ⟨h3.os.trans hsv.os, h3.tape.trans hsv.tape, h3.output.trans hsv.output, Nat.le_trans hsv.size h3.size, fun k hk hne => (h3.block k (by have := hsv.size; omega) hne).trans (hsv.block k hk hne)⟩
  case done =>
    rintro D ys W hD rfl ⟨_, hone, hsv⟩ hK
    obtain ⟨b, c, h1, h2⟩ := hone rfl
    have hc : W.cell? ⟨w.heap.size, 0, none⟩ = some (.slice (some ⟨b, 0, none⟩) 1 c) := by rw [cell_heap h1]; rfl
    gi_wp2
    refine ⟨by simp, .inl ⟨_, _, rfl, run_takeDeferred hK, ?_⟩⟩
    have b2 : Below w.heap.size w W := ⟨hsv.os, hsv.tape, hsv.output, by have := hsv.size; omega, fun k hk => by
      rw [hsv.block k (by omega) (by omega), Below.heap_alloc _ _ _ (by simp; omega), Below.heap_alloc _ _ _ hk]⟩
    exact ⟨.slice (some ⟨b, 0, none⟩) 1 c, by simp [results, Tryz.f253, go_sem], b, ⟨c, rfl⟩, cell_kept h2 (grownBy_putObj' _ D (.deferred none)) (fun r e => by cases e; exact ⟨_, hK, rfl⟩),
      b2.trans (belowK_b (w := w) (Nat.le_refl _) W D _ (.deferred none) (by omega) hK rfl rfl)⟩
  case stop =>
    rintro D c pre W _ _ h _
    exact h.elim
theorem Names_last (w : World) (hg : ∀ (i : Nat) v, (denL ⟨fun _ => 0, fun _ => 0⟩ namesL)[i]? = some v → w.cell? ⟨4, i, none⟩ = some v) :
    Calls Tryz.prog 253 #[.int .u8 16] w fun e w' => ∃ b c, e = .returned (.slice (some ⟨b, 0, none⟩) 1 c) ∧ w'.cell? ⟨b, 0, none⟩ = some lastName ∧ Below w.heap.size w w' :=
  (callsIn_wide (n := 3)).1 (names_in w hg)
end Go.Proofs.YtpfoifflfgiaoaaGreatDoor
namespace Go.Proofs.YtpfoifflfgiaoaaGreatDoor
open Go Go.RowKit Go.MapKept Go.Shelf

set_option maxRecDepth 100000 in
set_option maxHeartbeats 2000000 in
theorem Told_last (w : World) (hg : ∀ (i : Nat) v, (denL ⟨fun _ => 0, fun _ => 0⟩ namesL)[i]? = some v → w.cell? ⟨4, i, none⟩ = some v) :
    Calls Tryz.prog 207 #[.int .u8 16] w fun e w' => e = .returned lastName ∧ Below w.heap.size w w' := by
  go_enter Tryz.func207, Tryz.ntmps207
  go_wp2_with (first
    | (go_at_call 253; refine (Names_last _ hg).mono ?_; rintro e w' ⟨b, c, rfl, hc, hk⟩)
    | go_in)
  go_ret
  exact ⟨rfl, hk⟩
end Go.Proofs.YtpfoifflfgiaoaaGreatDoor
namespace Go.Proofs.YtpfoifflfgiaoaaGreatDoor
open Go Go.RowKit

theorem assert_nil (w : World) : (Instr.typeAssert .nilIface 20 26 true).run Tryz.prog w = .ok (.tuple #[.int .i64 0, .bool false]) w := by kernel_rfl
set_option maxRecDepth 100000 in
theorem cmd1_idle (x y : Value) (w : World) : CallsD Tryz.prog 130 #[x, y] .returning w fun e u' w' => (∃ v, e = .returned v) ∧ u' = .returning ∧ Below w.heap.size w w' := by
  refine callsD_of_wpS Tryz.func130 rfl fun c₀ cs hu => ?_
  apply wpS_seq
  apply wpS_region
  simp [wpOpsS, go_sem, recoverD, hu, assert_nil, Tryz.ntmps130, Exit.thenS]
  apply wpS_seq
  apply wpS_region
  simp [wpOpsS, go_sem, Exit.thenS]
  refine wpS_cond (t := false) (by simp [Act.eval, Array.replicate]) ?_
  simp only [Bool.false_eq_true, if_false]
  refine wpS_of_wp (wp_skip ?_)
  have hb := Below.refl w.heap.size w
  cases c₀
  simp_all [bodyPostS, results, Tryz.f130]
end Go.Proofs.YtpfoifflfgiaoaaGreatDoor
