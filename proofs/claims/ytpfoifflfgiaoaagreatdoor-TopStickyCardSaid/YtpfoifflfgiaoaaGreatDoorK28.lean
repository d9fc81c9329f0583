/- Package flag: Join by what it answers. -/
import Derived.Test.YtpfoifflfgiaoaaGreatDoorK02
import Derived.Test.YtpfoifflfgiaoaaGreatDoorK01
import Derived.Outline
import Derived.LoopNIn
set_option linter.unusedVariables false
set_option linter.unusedSimpArgs false
namespace Go.Proofs.YtpfoifflfgiaoaaGreatDoor
open Go.RowKit Go.Shelf
attribute [local go_sem] Oper.semAt_some

/-- has a set the flag x? -/
def flB (s : Int) (x : Nat) : Bool := bits .and .u8 s (2 ^ x) != 0
/-- the flags among the first k that a set has -/
def fls (s : Int) (k : Nat) : List (Fin 5) := ((List.finRange 5).take k).filter fun x => flB s x.val
theorem fls_yes {s : Int} {k : Nat} (h : k < 5) (hb : flB s k = true) : fls s (k + 1) = fls s k ++ [⟨k, h⟩] := by
  unfold fls
  rw [List.take_succ_eq_append_getElem (by simpa using h), List.filter_append]
  simp [hb]
theorem fls_no {s : Int} {k : Nat} (h : k < 5) (hb : flB s k = false) : fls s (k + 1) = fls s k := by
  unfold fls
  rw [List.take_succ_eq_append_getElem (by simpa using h), List.filter_append]
  simp [hb]
theorem fls_length {s : Int} {k : Nat} (h : k ≤ 5) : (fls s k).length ≤ k := by
  unfold fls
  exact Nat.le_trans (List.length_filter_le _ _) (by simp; omega)

set_option maxRecDepth 100000 in
set_option maxHeartbeats 2000000 in
theorem each1_in (F : Fence) (n : Nat) (h7 : F.fn 26) (hro : F.round = none) (hn : 1 ≤ n) (l b : Nat) (s : Int) (J Jx : List (Fin 5) → World → Prop)
    (hY : ∀ (k : Nat) (hk : k < 5), flB s k = true → ∀ W, J (fls s k) W → YieldAt F (n - 1) Tryz.prog l #[.int .i64 (k : Int), .int .u8 (2 ^ k : Int)] W fun e W' =>
      (e = .returned (.bool true) ∧ J (fls s k ++ [⟨k, hk⟩]) W' ∧ W'.heap[b]? = W.heap[b]?) ∨ (e = .returned (.bool false) ∧ Jx (fls s k ++ [⟨k, hk⟩]) W'))
    (W : World) (hb : W.cell? ⟨b, 0, none⟩ = some (.int .u8 s)) (h0 : J [] W) :
    CallsIn F n Tryz.prog 26 #[.func (.yield l) #[] #[], .pointer (some ⟨b, 0, none⟩)] W fun e W' => (∃ v, e = .returned v) ∧
      ((∃ ys, ys = fls s 5 ∧ J ys W') ∨ (∃ pre, True ∧ Jx pre W')) := by
  refine callsIn_of_wp Tryz.func26 rfl h7 ?_ hro
  simp only [Tryz.ntmps26, List.size_toArray, List.length_cons, List.length_nil, Nat.reduceAdd, Nat.reduceSub, Array.replicate_succ, Array.replicate_zero, List.push_toArray, List.append_toArray, List.nil_append, List.cons_append]
  gi_wp2
  gi_loopw [5] (fun i wr => ∃ k : Nat, k ≤ 5 ∧ i = .int .i64 k ∧ J (fls s k) wr ∧ wr.cell? ⟨b, 0, none⟩ = some (.int .u8 s))
    (fun i _ => 5 - (intOf i).toNat)
  case atStart => exact ⟨0, Nat.zero_le _, rfl, h0, hb⟩
  case round =>
    obtain ⟨k, hk, rfl, hJs, hbr⟩ := hrel
    by_cases hlt : k < 5
    · skip
      rcases (by omega : k = 0 ∨ k = 1 ∨ k = 2 ∨ k = 3 ∨ k = 4) with rfl | rfl | rfl | rfl | rfl
      · cases hbit : flB s 0 with
        | true =>
          obtain ⟨fn, tmps, assign, body, hy, hR⟩ := hY 0 hlt hbit wr hJs
          have hy : (Instr.yield l #[Value.int .i64 0, Value.int .u8 1]).run Tryz.prog wr = .ok (.round l fn tmps assign body) wr := hy
          have hbit' : bits .and .u8 s 1 ≠ 0 := by simpa [flB] using hbit
          rw [← fls_yes (s := s) (k := 0) (by omega) hbit] at hR
          gi_wp2
          refine hR.mono ?_
          rintro e W3 (⟨rfl, hJ3, hk3⟩ | ⟨rfl, hJx3⟩)
          · gi_wp2
            go_roundw
            case rel => exact ⟨1, by omega, by simp, hJ3, (World.cell?_of_block (w := wr) hk3).trans hbr⟩
            case measure => simp [intOf]
          · gi_wp2
            (try simp only [Exit.inBlock, Exit.then])
            refine bodyPost_ret (results_none rfl _ _ _) rfl ?_
            exact ⟨⟨_, rfl⟩, .inr ⟨_, trivial, hJx3⟩⟩
        | false =>
          have hbit' : bits .and .u8 s 1 = 0 := by simpa [flB] using hbit
          have hJs : J (fls s 1) wr := by rw [fls_no (s := s) (k := 0) (by omega) hbit]; exact hJs
          gi_wp2
          refine ⟨fun _ h => (by cases h), ?_⟩
          gi_wp2
          go_roundw
          case rel => exact ⟨1, by omega, by simp, hJs, hbr⟩
          case measure => simp [intOf]
      · cases hbit : flB s 1 with
        | true =>
          obtain ⟨fn, tmps, assign, body, hy, hR⟩ := hY 1 hlt hbit wr hJs
          have hy : (Instr.yield l #[Value.int .i64 1, Value.int .u8 2]).run Tryz.prog wr = .ok (.round l fn tmps assign body) wr := hy
          have hbit' : bits .and .u8 s 2 ≠ 0 := by simpa [flB] using hbit
          rw [← fls_yes (s := s) (k := 1) (by omega) hbit] at hR
          gi_wp2
          refine hR.mono ?_
          rintro e W3 (⟨rfl, hJ3, hk3⟩ | ⟨rfl, hJx3⟩)
          · gi_wp2
            go_roundw
            case rel => exact ⟨2, by omega, by simp, hJ3, (World.cell?_of_block (w := wr) hk3).trans hbr⟩
            case measure => simp [intOf]
          · gi_wp2
            (try simp only [Exit.inBlock, Exit.then])
            refine bodyPost_ret (results_none rfl _ _ _) rfl ?_
            exact ⟨⟨_, rfl⟩, .inr ⟨_, trivial, hJx3⟩⟩
        | false =>
          have hbit' : bits .and .u8 s 2 = 0 := by simpa [flB] using hbit
          have hJs : J (fls s 2) wr := by rw [fls_no (s := s) (k := 1) (by omega) hbit]; exact hJs
          gi_wp2
          refine ⟨fun _ h => (by cases h), ?_⟩
          gi_wp2
          go_roundw
          case rel => exact ⟨2, by omega, by simp, hJs, hbr⟩
          case measure => simp [intOf]
      · cases hbit : flB s 2 with
        | true =>
          obtain ⟨fn, tmps, assign, body, hy, hR⟩ := hY 2 hlt hbit wr hJs
          have hy : (Instr.yield l #[Value.int .i64 2, Value.int .u8 4]).run Tryz.prog wr = .ok (.round l fn tmps assign body) wr := hy
          have hbit' : bits .and .u8 s 4 ≠ 0 := by simpa [flB] using hbit
          rw [← fls_yes (s := s) (k := 2) (by omega) hbit] at hR
          gi_wp2
          refine hR.mono ?_
          rintro e W3 (⟨rfl, hJ3, hk3⟩ | ⟨rfl, hJx3⟩)
          · gi_wp2
            go_roundw
            case rel => exact ⟨3, by omega, by simp, hJ3, (World.cell?_of_block (w := wr) hk3).trans hbr⟩
            case measure => simp [intOf]
          · gi_wp2
            (try simp only [Exit.inBlock, Exit.then])
            refine bodyPost_ret (results_none rfl _ _ _) rfl ?_
            exact ⟨⟨_, rfl⟩, .inr ⟨_, trivial, hJx3⟩⟩
        | false =>
          have hbit' : bits .and .u8 s 4 = 0 := by simpa [flB] using hbit
          have hJs : J (fls s 3) wr := by rw [fls_no (s := s) (k := 2) (by omega) hbit]; exact hJs
          gi_wp2
          refine ⟨fun _ h => (by cases h), ?_⟩
          gi_wp2
          go_roundw
          case rel => exact ⟨3, by omega, by simp, hJs, hbr⟩
          case measure => simp [intOf]
      · cases hbit : flB s 3 with
        | true =>
          obtain ⟨fn, tmps, assign, body, hy, hR⟩ := hY 3 hlt hbit wr hJs
          have hy : (Instr.yield l #[Value.int .i64 3, Value.int .u8 8]).run Tryz.prog wr = .ok (.round l fn tmps assign body) wr := hy
          have hbit' : bits .and .u8 s 8 ≠ 0 := by simpa [flB] using hbit
          rw [← fls_yes (s := s) (k := 3) (by omega) hbit] at hR
          gi_wp2
          refine hR.mono ?_
          rintro e W3 (⟨rfl, hJ3, hk3⟩ | ⟨rfl, hJx3⟩)
          · gi_wp2
            go_roundw
            case rel => exact ⟨4, by omega, by simp, hJ3, (World.cell?_of_block (w := wr) hk3).trans hbr⟩
            case measure => simp [intOf]
          · gi_wp2
            (try simp only [Exit.inBlock, Exit.then])
            refine bodyPost_ret (results_none rfl _ _ _) rfl ?_
            exact ⟨⟨_, rfl⟩, .inr ⟨_, trivial, hJx3⟩⟩
        | false =>
          have hbit' : bits .and .u8 s 8 = 0 := by simpa [flB] using hbit
          have hJs : J (fls s 4) wr := by rw [fls_no (s := s) (k := 3) (by omega) hbit]; exact hJs
          gi_wp2
          refine ⟨fun _ h => (by cases h), ?_⟩
          gi_wp2
          go_roundw
          case rel => exact ⟨4, by omega, by simp, hJs, hbr⟩
          case measure => simp [intOf]
      · cases hbit : flB s 4 with
        | true =>
          obtain ⟨fn, tmps, assign, body, hy, hR⟩ := hY 4 hlt hbit wr hJs
          have hy : (Instr.yield l #[Value.int .i64 4, Value.int .u8 16]).run Tryz.prog wr = .ok (.round l fn tmps assign body) wr := hy
          have hbit' : bits .and .u8 s 16 ≠ 0 := by simpa [flB] using hbit
          rw [← fls_yes (s := s) (k := 4) (by omega) hbit] at hR
          gi_wp2
          refine hR.mono ?_
          rintro e W3 (⟨rfl, hJ3, hk3⟩ | ⟨rfl, hJx3⟩)
          · gi_wp2
            go_roundw
            case rel => exact ⟨5, by omega, by simp, hJ3, (World.cell?_of_block (w := wr) hk3).trans hbr⟩
            case measure => simp [intOf]
          · gi_wp2
            (try simp only [Exit.inBlock, Exit.then])
            refine bodyPost_ret (results_none rfl _ _ _) rfl ?_
            exact ⟨⟨_, rfl⟩, .inr ⟨_, trivial, hJx3⟩⟩
        | false =>
          have hbit' : bits .and .u8 s 16 = 0 := by simpa [flB] using hbit
          have hJs : J (fls s 5) wr := by rw [fls_no (s := s) (k := 4) (by omega) hbit]; exact hJs
          gi_wp2
          refine ⟨fun _ h => (by cases h), ?_⟩
          gi_wp2
          go_roundw
          case rel => exact ⟨5, by omega, by simp, hJs, hbr⟩
          case measure => simp [intOf]
    · have hk5 : k = 5 := by omega
      subst hk5
      clear hk hlt
      gi_wp2
      go_end0
      exact ⟨⟨_, rfl⟩, .inl ⟨_, rfl, hJs⟩⟩

theorem each_in (F : Fence) (n : Nat) (h5 : F.fn 14) (hro : F.round = none) (s : Int) (w : World) :
    CallsIn F n Tryz.prog 14 #[.int .u8 s] w fun e w' => e = .returned (.func (.func 26) #[] #[.pointer (some ⟨w.heap.size, 0, none⟩)]) ∧ w' = w.alloc (.cells #[.int .u8 s] 25) := by
  refine callsIn_of_wp Tryz.func14 rfl h5 ?_ hro
  simp only [Tryz.ntmps14, List.size_toArray, List.length_cons, List.length_nil, Nat.reduceAdd, Nat.reduceSub, Array.replicate_succ, Array.replicate_zero, List.push_toArray, List.append_toArray, List.nil_append, List.cons_append]
  gi_wp2
  go_ret
  exact ⟨rfl, rfl⟩
/-- a block stands as it stood -/
def KeepB (b : Nat) (W W' : World) : Prop := W'.heap[b]? = W.heap[b]?
theorem keepB_t {b : Nat} {A B C : World} (h : KeepB b A B) (k : KeepB b B C) : KeepB b A C := Eq.trans k h
theorem keepB_b {b : Nat} {w : World} (hb : b < w.heap.size) (W : World) (l : Nat) (o o' : Obj) (hl : w.heap.size ≤ l) (h : W.heap[l]? = some o) (_ : o.isCells = false) (_ : o.isWalk = false) : KeepB b W (W.putObj l o') :=
  World.putObj_heap_other (by omega)
theorem each_stops (F : Fence) (n : Nat) (h7 : F.fn 26) (hro : F.round = none) (hn : 1 ≤ n) (b : Nat) (s : Int) (w : World) (hb : w.cell? ⟨b, 0, none⟩ = some (.int .u8 s)) :
    SeqStopsK F n Tryz.prog 26 #[.pointer (some ⟨b, 0, none⟩)] (fun x : Fin 5 => #[Value.int .i64 (x.val : Int), Value.int .u8 (2 ^ x.val : Int)]) (KeepB b) (fun ys => ys = fls s 5) (fun _ => True) 5 w := fun l J Jx W hW _ _ hY h0 => by
  have hlt : b < w.heap.size := World.block_lt_of_cell? w ⟨b, 0, none⟩ hb
  refine (each1_in F n h7 hro hn l b s J Jx (fun k hk _ W hJ => hY _ ⟨k, hk⟩ W hJ (by have := fls_length (s := s) (k := k) (by omega); omega)) W ((World.cell?_of_block (w := w) (hW.block b hlt)).trans hb) h0).mono ?_
  rintro e W' ⟨he, h⟩
  exact ⟨he, h⟩
end Go.Proofs.YtpfoifflfgiaoaaGreatDoor
namespace Go.Proofs.YtpfoifflfgiaoaaGreatDoor
open Go.RowKit Go.Shelf
/-- nothing is turned but block o, as far as n -/
structure Save (o n : Nat) (w W : World) : Prop where
  os : W.os = w.os
  tape : W.tape = w.tape
  output : W.output = w.output
  size : w.heap.size ≤ W.heap.size
  block : ∀ k, k < n → k ≠ o → W.heap[k]? = w.heap[k]?
theorem Save.refl (o n : Nat) (w : World) : Save o n w w := ⟨rfl, rfl, rfl, Nat.le_refl _, fun _ _ _ => rfl⟩
theorem Save.grown {o n : Nat} {w A B : World} {row : Option Nat} (h : Save o n w A) (hn : n ≤ w.heap.size) (hg : A.grownBy B row) (hr : ∀ r, row = some r → n ≤ r) : Save o n w B :=
  ⟨hg.os.trans h.os, hg.tape.trans h.tape, hg.output.trans h.output, Nat.le_trans h.size hg.size, fun k hk hko => (hg.block k (by have := h.size; omega) (fun e => by have := hr k e.symm; omega)).trans (h.block k hk hko)⟩
theorem Save.setCell {o n : Nat} {w A : World} (h : Save o n w A) (v : Value) : Save o n w (A.setCell ⟨o, 0, none⟩ v) :=
  ⟨h.os, h.tape, h.output, by rw [World.size_setCell]; exact h.size, fun k hk hko => (Below.heap_setCell A _ v k hko).trans (h.block k hk hko)⟩

end Go.Proofs.YtpfoifflfgiaoaaGreatDoor
namespace Go.Proofs.YtpfoifflfgiaoaaGreatDoor
open Go.RowKit Go.Shelf
attribute [local go_sem] Oper.semAt_some

/-- flags put together -/
def orF (o : Int) (l : List (Fin 5)) : Int := l.foldl (fun o x => bits .or .u8 o (2 ^ x.val)) o
theorem orF_snoc (o : Int) (l : List (Fin 5)) (x : Fin 5) : orF o (l ++ [x]) = bits .or .u8 (orF o l) (2 ^ x.val) := by unfold orF; rw [List.foldl_append]; rfl
def joinI (s t : Int) : Int := orF (orF 0 (fls s 5)) (fls t 5)
set_option maxRecDepth 100000 in
set_option maxHeartbeats 2000000 in
theorem join_inner (F : Fence) (n : Nat) (hn : 3 ≤ n) (h6 : F.fn 26) (hro : F.round = none) (b o : Nat) (s O : Int) (w : World) (hb : w.cell? ⟨b, 0, none⟩ = some (.int .u8 s)) (ho : w.cell? ⟨o, 0, none⟩ = some (.int .u8 O)) (hf : w.frozen? ⟨o, 0, none⟩ = false) (hne : b ≠ o)
    (u0 u1 u2 u4 u5 u6 u7 u8 u9 u10 u11 u12 u13 u14 u16 u17 u18 u19 u20 u21 u22 : Value) (ds : List Deferred) (Q : Exit → Act → World → Prop)
    (hQ : ∀ D W, w.heap.size ≤ D → W.cell? ⟨o, 0, none⟩ = some (.int .u8 (orF O (fls s 5))) → W.frozen? ⟨o, 0, none⟩ = false → Save o w.heap.size w W → W.heap[D]? = some (.deferred (some [])) →
      Q .normal { tmps := #[u0, u1, u2, .pointer (some ⟨o, 0, none⟩), u4, u5, u6, u7, u8, u9, u10, u11, u12, u13, u14, .func (.func 26) #[] #[.pointer (some ⟨b, 0, none⟩)], u16, u17, u18, u19, u20, u21, u22], defers := { target := .collected D, args := #[] } :: ds } W) :
    (Code.rangeFunc (Operand.tmp 15) #[16, 17]
      (Code.region 6
        #[{ dst := some 7, op := Op.assign (Operand.tmp 17), type := 25, pos := "flag.go:30", after := #[],
            guard := none }]
        false)
      (Code.block 3
        (Code.region 7
          #[{ dst := some 18, op := Op.load 25 (Operand.tmp 3), type := 25, pos := "flag.go:31", after := #[],
              guard := none },
            { dst := some 19, op := Op.move (Operand.tmp 7), type := 25, pos := "flag.go:31", after := #[],
              guard := none },
            { dst := some 20, op := Op.binOp BinOp.or 25 (Operand.tmp 18) (Operand.tmp 19) 25, type := 25,
              pos := "flag.go:31", after := #[{ on := 0, ground := Ground.data }, { on := 1, ground := Ground.data }],
              guard := none },
            { dst := none, op := Op.store 25 (Operand.tmp 3) (Operand.tmp 20), type := 0, pos := "flag.go:31",
              after :=
                #[{ on := 2, ground := Ground.data }, { on := 0, ground := Ground.phase },
                  { on := 1, ground := Ground.phase }, { on := 2, ground := Ground.phase }],
              guard := none }]
          false))).wpIn F n Tryz.prog Q { tmps := #[u0, u1, u2, .pointer (some ⟨o, 0, none⟩), u4, u5, u6, u7, u8, u9, u10, u11, u12, u13, u14, .func (.func 26) #[] #[.pointer (some ⟨b, 0, none⟩)], u16, u17, u18, u19, u20, u21, u22], defers := ds } w := by
  have hblt : b < w.heap.size := World.block_lt_of_cell? w ⟨b, 0, none⟩ hb
  have holt : o < w.heap.size := World.block_lt_of_cell? w ⟨o, 0, none⟩ ho
  refine wpIn_rangeFunc_ownF hro (by omega) (gf := 26) (lb := #[.pointer (some ⟨b, 0, none⟩)]) rfl h6 (enters_of Tryz.func26 (by kernel_rfl) rfl)
    (each_stops F (n - 1) h6 hro (by omega) b s w hb) keepB_t (keepB_b hblt) (Below.refl _ _) (fun _ => rfl)
    (fun pre W => W.cell? ⟨o, 0, none⟩ = some (.int .u8 (orF O pre)) ∧ W.frozen? ⟨o, 0, none⟩ = false ∧ Save o w.heap.size w W)
    (fun _ _ _ => False)
    (fun pre A B row hs hg hr => ⟨cell_kept hs.1 hg (fun r e => (hr r e).2), (frozen_kept hs.1 hg (fun r e => (hr r e).2)).trans hs.2.1, hs.2.2.grown (Nat.le_refl _) hg (fun r e => (hr r e).1)⟩)
    (fun _ _ _ _ _ hs _ _ => hs)
    ⟨ho, hf, Save.refl _ _ _⟩
    (fun x => { tmps := #[u0, u1, u2, .pointer (some ⟨o, 0, none⟩), u4, u5, u6, .int .u8 (2 ^ x.val : Int), u8, u9, u10, u11, u12, u13, u14, .func (.func 26) #[] #[.pointer (some ⟨b, 0, none⟩)], .int .i64 (x.val : Int), .int .u8 (2 ^ x.val : Int), u18, u19, u20, u21, u22], defers := [] }) ?assign ?body ?done ?stop
  case assign =>
    intro l x W K hK
    gi_wp2
    exact hK
  case body =>
    rintro l pre x W ⟨hc, hfr, hsv⟩ _
    gi_wp2
    refine ⟨KeepsOthers.setCell _ _ _, Below.heap_setCell _ _ _ _ hne, ?_, ?_, hsv.setCell _⟩
    · rw [orF_snoc]; go_simp
    · go_simp
  case done =>
    rintro D ys W hD rfl ⟨hc, hfr, hsv⟩ hK
    exact hQ D W hD hc hfr hsv hK
  case stop =>
    rintro D c pre W _ _ h _
    exact h.elim

set_option maxRecDepth 100000 in
set_option maxHeartbeats 2000000 in
theorem join_in (F : Fence) (n : Nat) (hn : 3 ≤ n) (hfn : ∀ f, F.fn f) (hro : F.round = none) (B0 c : Nat) (s t : Int) (w : World) (hs : w.cell? ⟨B0, 0, none⟩ = some (.int .u8 s)) (ht : w.cell? ⟨B0, 1, none⟩ = some (.int .u8 t)) :
    CallsIn F n Tryz.prog 7 #[.slice (some ⟨B0, 0, none⟩) 2 c] w fun e w' => e = .returned (.int .u8 (joinI s t)) ∧ Below w.heap.size w w' := by
  have h5 : F.fn 14 := hfn _
  have h6 : F.fn 26 := hfn _
  have hB0 : B0 < w.heap.size := World.block_lt_of_cell? w ⟨B0, 0, none⟩ hs
  have h1 : 1 ≤ n := by omega
  refine callsIn_of_wp_marks Tryz.func7 rfl (hfn _) ?_ hro
  clear hfn
  simp only [Tryz.ntmps7, List.size_toArray, List.length_cons, List.length_nil, Nat.reduceAdd, Nat.reduceSub, Array.replicate_succ, Array.replicate_zero, List.push_toArray, List.append_toArray, List.nil_append, List.cons_append]
  gi_wp2
  refine wpIn_loop_rounds 3 ?_
  rw [roundsIn_succ]
  gi_wp2_with (gi_at_call 14; refine (each_in F (n - 1) h5 hro _ _).mono ?_; rintro e w' ⟨rfl, rfl⟩)
  refine join_inner F n hn h6 hro _ _ s 0 _ ?hb ?ho ?hf ?hne _ _ _ _ _ _ _ _ _ _ _ _ _ _ _ _ _ _ _ _ _ _ _ ?_
  case hb => go_simp
  case ho => go_simp
  case hf => go_simp
  case hne => simp
  intro D1 W1 hD1 hc1 hf1 hs1 hK1
  simp only [World.size_alloc] at hD1 hs1
  have hz1 := hs1.size
  simp only [World.size_alloc] at hz1
  have ht1 : W1.cell? ⟨B0, 1, none⟩ = some (.int .u8 t) := by
    rw [World.cell?_of_block (w := (w.alloc (.cells #[.int .u8 0] 25)).alloc (.cells #[.int .u8 s] 25)) (hs1.block B0 (by omega) (by omega))]
    go_simp
  have hD1z : D1 < W1.heap.size := (Array.getElem?_eq_some_iff.1 hK1).1
  gi_wp2
  rw [roundsIn_succ]
  gi_wp2_with (gi_at_call 14; refine (each_in F (n - 1) h5 hro _ _).mono ?_; rintro e w' ⟨rfl, rfl⟩)
  refine join_inner F n hn h6 hro _ _ t (orF 0 (fls s 5)) _ ?hb ?ho ?hf ?hne _ _ _ _ _ _ _ _ _ _ _ _ _ _ _ _ _ _ _ _ _ _ _ ?_
  case hb => go_simp
  case ho => exact (World.cell?_of_block (w := W1) (Below.heap_alloc _ _ _ (by show w.heap.size < _; omega))).trans hc1
  case hf => exact (World.frozen?_of_block (w := W1) (Below.heap_alloc _ _ _ (by show w.heap.size < _; omega))).trans hf1
  case hne => omega
  intro D2 W2 hD2 hc2 hf2 hs2 hK2
  simp only [World.size_alloc] at hD2 hs2
  gi_wp2
  rw [roundsIn_succ]
  gi_wp2
  have hz2 := hs2.size
  simp only [World.size_alloc] at hz2
  have hK1b : W2.heap[D1]? = some (.deferred (some [])) := by
    rw [hs2.block D1 (by omega) (by omega), Below.heap_alloc _ _ _ hD1z]; exact hK1
  have hne12 : D1 ≠ D2 := by omega
  refine ⟨by simp, .inl ⟨_, _, rfl, run_takeDeferred hK2, ?_⟩⟩
  refine ⟨by simp, .inl ⟨_, _, rfl, run_takeDeferred ((World.putObj_heap_other hne12).trans hK1b), ?_⟩⟩
  refine ⟨.int .u8 (orF (orF 0 (fls s 5)) (fls t 5)), by simp [results, Tryz.f7, go_sem], rfl, ?_⟩
  have b2 : Below w.heap.size w W2 := ⟨hs2.os.trans hs1.os, hs2.tape.trans hs1.tape, hs2.output.trans hs1.output, by omega, fun k hk => by
    rw [hs2.block k (by omega) (by omega), Below.heap_alloc _ _ _ (by omega), hs1.block k (by omega) (by omega), Below.heap_alloc _ _ _ (by simp; omega), Below.heap_alloc _ _ _ hk]⟩
  have b3 := b2.trans (belowK_b (w := w) (Nat.le_refl _) W2 D2 _ (.deferred none) (by omega) hK2 rfl rfl)
  exact b3.trans (belowK_b (w := w) (Nat.le_refl _) _ D1 _ (.deferred none) (by omega) ((World.putObj_heap_other hne12).trans hK1b) rfl rfl)
theorem Join_any (B0 c : Nat) (s t : Int) (w : World) (hs : w.cell? ⟨B0, 0, none⟩ = some (.int .u8 s)) (ht : w.cell? ⟨B0, 1, none⟩ = some (.int .u8 t)) :
    Calls Tryz.prog 7 #[.slice (some ⟨B0, 0, none⟩) 2 c] w fun e w' => e = .returned (.int .u8 (joinI s t)) ∧ Below w.heap.size w w' :=
  (callsIn_wide (n := 3)).1 (join_in Fence.wide 3 (by omega) (fun _ => trivial) rfl B0 c s t w hs ht)
/-- flags are eight bits -/
theorem orF_range {o : Int} (ho : 0 ≤ o ∧ o ≤ 255) (l : List (Fin 5)) : 0 ≤ orF o l ∧ orF o l ≤ 255 := by
  induction l generalizing o with
  | nil => exact ho
  | cons x l ih =>
    refine ih (o := bits .or .u8 o (2 ^ x.val)) ?_
    have := bits_within .or .u8 o (2 ^ x.val : Int)
    have h1 : IntKind.u8.min = 0 := by decide
    have h2 : IntKind.u8.max = 255 := by decide
    omega
theorem joinI_range (s t : Int) : 0 ≤ joinI s t ∧ joinI s t ≤ 255 := orF_range (orF_range (by omega) _) _
end Go.Proofs.YtpfoifflfgiaoaaGreatDoor
