/- package quot: the contract of Div. -/
import Derived.Test.YtglagdmfplgfaaaQuotI
import Derived.Test.YtglagdmfplgfaaaQuotN
import Derived.Test.YtglagdmfplgfaaaRegionG
import Derived.Test.YtglagdmfplgfaaaChain
set_option linter.unusedVariables false
set_option linter.unusedSimpArgs false
namespace Go.Proofs.Ytglagdmfplgfaaa
open Go.RowKit Go.Shelf
attribute [local go_sem] Oper.semAt_some

theorem Box.grown {A B : World} {row : Option Nat} {b : Nat} {vs : Array Value} (h : Box A b vs) (hg : A.grownBy B row) (hr : ∀ r, row = some r → ∃ o : Obj, A.heap[r]? = some o ∧ o.isCells = false) (hc : ∃ v, vs[0]? = some v) : Box B b vs :=
  ⟨Nat.lt_of_lt_of_le h.lt hg.size, fun i v hi => cell_kept (h.cell i v hi) hg hr, fun o => by
    have hb : B.heap[b]? = A.heap[b]? := hg.block b h.lt (by
      intro e
      obtain ⟨v, hv⟩ := hc
      obtain ⟨o, ho, hn⟩ := hr b e.symm
      have := h.cell 0 v hv
      unfold World.cell? at this
      simp only [ho] at this
      cases o <;> simp_all [Obj.isCells])
    exact (World.frozen?_of_block (a := ⟨b, o, none⟩) hb).trans (h.free o)⟩
theorem below_others {A B : World} (h : Below A.heap.size A B) : KeepsOthers A B := ⟨h.size, fun k o hk _ => (h.block k (Array.getElem?_eq_some_iff.1 hk).1).trans hk⟩
theorem Box.four {W : World} {b A : Nat} (h : Box W b #[.int .u64 (limb 0 A), .int .u64 (limb 1 A), .int .u64 (limb 2 A), .int .u64 (limb 3 A)]) : Four b (fun i => limb i A) W := fun i hi => by
  rcases (by omega : i = 0 ∨ i = 1 ∨ i = 2 ∨ i = 3) with rfl | rfl | rfl | rfl
  · exact h.cell 0 _ rfl
  · exact h.cell 1 _ rfl
  · exact h.cell 2 _ rfl
  · exact h.cell 3 _ rfl
theorem Box.layQ {W : World} {b q i : Nat} (h : Box W b #[.int .u64 (limb 0 q), .int .u64 (limb 1 q), .int .u64 (limb 2 q), .int .u64 (limb 3 q)]) (hi : i < 256) : Box (W.setCell ⟨b, i / 64, none⟩ (.int .u64 (bits .or .u64 (limb (i / 64) q) ((2 ^ (i % 64) : Nat) : Int)))) b #[.int .u64 (limb 0 (q ||| 2 ^ i)), .int .u64 (limb 1 (q ||| 2 ^ i)), .int .u64 (limb 2 (q ||| 2 ^ i)), .int .u64 (limb 3 (q ||| 2 ^ i))] := by
  rw [limb_layQ q i 0, limb_layQ q i 1, limb_layQ q i 2, limb_layQ q i 3]
  rcases (by omega : i / 64 = 0 ∨ i / 64 = 1 ∨ i / 64 = 2 ∨ i / 64 = 3) with e | e | e | e <;> rw [e] <;> simp (config := {decide := true}) only [if_true, if_false]
  · exact h.set40
  · exact h.set41
  · exact h.set42
  · exact h.set43

/-- what holds ahead of each round: the boxes, and old memory -/
structure DivI (w : World) (bn A D : Nat) (s : Nat × Nat) (W : World) : Prop where
  d : Box W (w.heap.size + 1) #[.int .u64 (limb 1 D), .int .u64 (limb 0 D)]
  oq : Box W (w.heap.size + 1 + 1) #[.int .u64 0, .int .u64 0, .int .u64 0, .int .u64 0]
  orr : Box W (w.heap.size + 1 + 1 + 1) #[.int .u64 0, .int .u64 0]
  q : Box W (w.heap.size + 1 + 1 + 1 + 1) #[.int .u64 (limb 0 s.1), .int .u64 (limb 1 s.1), .int .u64 (limb 2 s.1), .int .u64 (limb 3 s.1)]
  r : Box W (w.heap.size + 1 + 1 + 1 + 1 + 1) #[.int .u64 (limb 1 s.2), .int .u64 (limb 0 s.2)]
  n : Box W bn #[.int .u64 (limb 0 A), .int .u64 (limb 1 A), .int .u64 (limb 2 A), .int .u64 (limb 3 A)]
  old : Below w.heap.size w W
theorem DivI.grown {w : World} {bn A D : Nat} {s : Nat × Nat} {X Y : World} {row : Option Nat} (h : DivI w bn A D s X) (hg : X.grownBy Y row) (hr : ∀ r, row = some r → w.heap.size ≤ r ∧ ∃ o : Obj, X.heap[r]? = some o ∧ o.isCells = false) : DivI w bn A D s Y :=
  have hr' := fun r e => (hr r e).2
  ⟨h.d.grown hg hr' ⟨_, rfl⟩, h.oq.grown hg hr' ⟨_, rfl⟩, h.orr.grown hg hr' ⟨_, rfl⟩, h.q.grown hg hr' ⟨_, rfl⟩, h.r.grown hg hr' ⟨_, rfl⟩, h.n.grown hg hr' ⟨_, rfl⟩,
    h.old.grown hg h.old.size (fun k e => (hr k e).1)⟩
theorem DivI.call {w : World} {bn A D : Nat} {s : Nat × Nat} {X Y : World} (h : DivI w bn A D s X) (hb : Below X.heap.size X Y) : DivI w bn A D s Y :=
  ⟨h.d.call hb, h.oq.call hb, h.orr.call hb, h.q.call hb, h.r.call hb, h.n.call hb, h.old.trans (hb.mono h.old.size)⟩

theorem DivI.setR {w : World} {bn A D q r r' : Nat} {X : World} (h : DivI w bn A D (q, r) X) (hbn : w.heap.size + 1 + 1 + 1 + 1 + 1 < bn) : DivI w bn A D (q, r') ((X.setCell ⟨w.heap.size + 1 + 1 + 1 + 1 + 1, 0, none⟩ (.int .u64 (limb 1 r'))).setCell ⟨w.heap.size + 1 + 1 + 1 + 1 + 1, 1, none⟩ (.int .u64 (limb 0 r'))) :=
  ⟨(h.d.other (by omega)).other (by omega), (h.oq.other (by omega)).other (by omega), (h.orr.other (by omega)).other (by omega), (h.q.other (by omega)).other (by omega), h.r.set20.set21, (h.n.other (by omega)).other (by omega), (h.old.setCell (by simp only []; omega) _).setCell (by simp only []; omega) _⟩
theorem DivI.setQ {w : World} {bn A D q r i : Nat} {X : World} (h : DivI w bn A D (q, r) X) (hbn : w.heap.size + 1 + 1 + 1 + 1 + 1 < bn) (hi : i < 256) : DivI w bn A D (q ||| 2 ^ i, r) (X.setCell ⟨w.heap.size + 1 + 1 + 1 + 1, i / 64, none⟩ (.int .u64 (bits .or .u64 (limb (i / 64) q) ((2 ^ (i % 64) : Nat) : Int)))) :=
  ⟨h.d.other (by omega), h.oq.other (by omega), h.orr.other (by omega), h.q.layQ hi, h.r.other (by omega), h.n.other (by omega), h.old.setCell (by simp only []; omega) _⟩
theorem DivI.drew {w : World} {bn A D : Nat} {s : Nat × Nat} {X : World} (h : DivI w bn A D s X) : DivI w bn A D s X.drew := ⟨h.d.drew, h.oq.drew, h.orr.drew, h.q.drew, h.r.drew, h.n.drew, h.old.drew⟩

set_option maxRecDepth 100000 in
set_option maxHeartbeats 8000000 in
theorem Div_in (n : Nat) (hn : 3 ≤ n) {A D : Nat} (hA : W256 A) (hD : W128 D) (h0 : 0 < D) (w : World) :
    CallsIn Fence.wide n Try.prog 34 #[wideV A, bitsV D] w fun e w' => e = .returned (.tuple #[wideV (divN A D), bitsV (modN A D), .bool true]) ∧ Below w.heap.size w w' := by
  have h1 : 1 ≤ n := by omega
  have hk := Kept.refl w
  have hz : zeroB D = false := decide_eq_false (by omega)
  refine callsIn_of_wp_marks Try.func34 rfl trivial ?_ rfl
  simp only [Try.ntmps34, List.size_toArray, List.length_cons, List.length_nil, Nat.reduceAdd, Nat.reduceSub, Array.replicate_succ, Array.replicate_zero, List.push_toArray, List.append_toArray, List.nil_append, List.cons_append]
  gi_wp2_with fail
  refine ⟨trivial, ?_⟩
  gi_at_call 72
  refine (callsIn_wide.2 (Zero_at (IsBits.of hD) _)).mono ?_
  rintro e w1 ⟨rfl, hb⟩
  have Bn : Box w1 (w.heap.size) #[.int .u64 (limb 0 A), .int .u64 (limb 1 A), .int .u64 (limb 2 A), .int .u64 (limb 3 A)] := Box.call hb (by repeat (first | with_reducible assumption | with_reducible apply Box.set10 | with_reducible apply Box.set20 | with_reducible apply Box.set21 | with_reducible apply Box.set40 | with_reducible apply Box.set41 | with_reducible apply Box.set42 | with_reducible apply Box.set43 | with_reducible apply Box.set50 | with_reducible apply Box.set51 | with_reducible apply Box.set52 | with_reducible apply Box.set53 | with_reducible apply Box.set54 | with_reducible apply Box.drew | (with_reducible apply Box.newAt; (try simp only [World.size_alloc, World.size_setCell, World.size_drew]); done) | with_reducible apply Box.alloc | (with_reducible apply Box.other; case hne => ((try simp only [World.size_alloc, World.size_setCell, World.size_drew]); omega))))
  have Bd : Box w1 (w.heap.size + 1) #[.int .u64 (limb 1 D), .int .u64 (limb 0 D)] := Box.call hb (by repeat (first | with_reducible assumption | with_reducible apply Box.set10 | with_reducible apply Box.set20 | with_reducible apply Box.set21 | with_reducible apply Box.set40 | with_reducible apply Box.set41 | with_reducible apply Box.set42 | with_reducible apply Box.set43 | with_reducible apply Box.set50 | with_reducible apply Box.set51 | with_reducible apply Box.set52 | with_reducible apply Box.set53 | with_reducible apply Box.set54 | with_reducible apply Box.drew | (with_reducible apply Box.newAt; (try simp only [World.size_alloc, World.size_setCell, World.size_drew]); done) | with_reducible apply Box.alloc | (with_reducible apply Box.other; case hne => ((try simp only [World.size_alloc, World.size_setCell, World.size_drew]); omega))))
  have Bq : Box w1 (w.heap.size + 1 + 1) #[.int .u64 0, .int .u64 0, .int .u64 0, .int .u64 0] := Box.call hb (by repeat (first | with_reducible assumption | with_reducible apply Box.set10 | with_reducible apply Box.set20 | with_reducible apply Box.set21 | with_reducible apply Box.set40 | with_reducible apply Box.set41 | with_reducible apply Box.set42 | with_reducible apply Box.set43 | with_reducible apply Box.set50 | with_reducible apply Box.set51 | with_reducible apply Box.set52 | with_reducible apply Box.set53 | with_reducible apply Box.set54 | with_reducible apply Box.drew | (with_reducible apply Box.newAt; (try simp only [World.size_alloc, World.size_setCell, World.size_drew]); done) | with_reducible apply Box.alloc | (with_reducible apply Box.other; case hne => ((try simp only [World.size_alloc, World.size_setCell, World.size_drew]); omega))))
  have Br : Box w1 (w.heap.size + 1 + 1 + 1) #[.int .u64 0, .int .u64 0] := Box.call hb (by repeat (first | with_reducible assumption | with_reducible apply Box.set10 | with_reducible apply Box.set20 | with_reducible apply Box.set21 | with_reducible apply Box.set40 | with_reducible apply Box.set41 | with_reducible apply Box.set42 | with_reducible apply Box.set43 | with_reducible apply Box.set50 | with_reducible apply Box.set51 | with_reducible apply Box.set52 | with_reducible apply Box.set53 | with_reducible apply Box.set54 | with_reducible apply Box.drew | (with_reducible apply Box.newAt; (try simp only [World.size_alloc, World.size_setCell, World.size_drew]); done) | with_reducible apply Box.alloc | (with_reducible apply Box.other; case hne => ((try simp only [World.size_alloc, World.size_setCell, World.size_drew]); omega))))
  have Bx : Box w1 (w.heap.size + 1 + 1 + 1 + 1) #[.int .u64 0, .int .u64 0, .int .u64 0, .int .u64 0] := Box.call hb (by repeat (first | with_reducible assumption | with_reducible apply Box.set10 | with_reducible apply Box.set20 | with_reducible apply Box.set21 | with_reducible apply Box.set40 | with_reducible apply Box.set41 | with_reducible apply Box.set42 | with_reducible apply Box.set43 | with_reducible apply Box.set50 | with_reducible apply Box.set51 | with_reducible apply Box.set52 | with_reducible apply Box.set53 | with_reducible apply Box.set54 | with_reducible apply Box.drew | (with_reducible apply Box.newAt; (try simp only [World.size_alloc, World.size_setCell, World.size_drew]); done) | with_reducible apply Box.alloc | (with_reducible apply Box.other; case hne => ((try simp only [World.size_alloc, World.size_setCell, World.size_drew]); omega))))
  have By : Box w1 (w.heap.size + 1 + 1 + 1 + 1 + 1) #[.int .u64 0, .int .u64 0] := Box.call hb (by repeat (first | with_reducible assumption | with_reducible apply Box.set10 | with_reducible apply Box.set20 | with_reducible apply Box.set21 | with_reducible apply Box.set40 | with_reducible apply Box.set41 | with_reducible apply Box.set42 | with_reducible apply Box.set43 | with_reducible apply Box.set50 | with_reducible apply Box.set51 | with_reducible apply Box.set52 | with_reducible apply Box.set53 | with_reducible apply Box.set54 | with_reducible apply Box.drew | (with_reducible apply Box.newAt; (try simp only [World.size_alloc, World.size_setCell, World.size_drew]); done) | with_reducible apply Box.alloc | (with_reducible apply Box.other; case hne => ((try simp only [World.size_alloc, World.size_setCell, World.size_drew]); omega))))
  have hk1 : Kept w.heap.size w w1 := Kept.step (by repeat (first | with_reducible exact hk | with_reducible exact Kept.refl _ | with_reducible refine Kept.alloc ?_ _ | with_reducible refine Kept.drew ?_ | with_reducible refine Kept.setCell ?_ (by simp only [World.size_alloc, World.size_setCell, World.size_drew]; omega) _)) hb
  clear hb hk
  have n0 := Bn.cell 0 _ rfl
  have n1 := Bn.cell 1 _ rfl
  have n2 := Bn.cell 2 _ rfl
  have n3 := Bn.cell 3 _ rfl
  gi_wp2_with fail
  refine ⟨trivial, ?_⟩
  gi_at_call 73
  refine (digits_in Fence.wide _ trivial rfl A _).mono ?_
  rintro e w2 ⟨rfl, hb, BN⟩
  gi_wp2
  have J0 : DivI w w1.heap.size A D (0, 0) w2 := by
    refine ⟨Bd.call hb, Bq.call hb, Br.call hb, ?_, ?_, BN, hk1.below.trans (hb.mono hk1.size)⟩
    · simpa [limb] using Bx.call hb
    · simpa [limb] using By.call hb
  have hlt : w1.heap.size < w2.heap.size := BN.lt
  have hN := BN.four
  have hs := hk1.size
  have hbn := By.lt
  clear Bn Bd Bq Br Bx By n0 n1 n2 n3 hb BN
  generalize w1.heap.size = bn at *
  have hsz : w.heap.size + 1 + 1 + 1 + 1 + 1 < w2.heap.size := J0.r.lt
  refine wpIn_rangeFunc_ownF rfl h1 (gf := 91) (lb := #[.pointer (some ⟨bn, 0, none⟩)]) rfl trivial (enters_of Try.func91 (by kernel_rfl) rfl)
    (digits_stops Fence.wide (n - 1) trivial rfl (by omega) bn A w2 hlt hN) kpQ_t (fun W l o o' _ h hc _ => kpQ_b W l o o' h hc) (Below.refl _ _) (fun _ => by rfl)
    (fun pre W => DivI w bn A D (divS A D pre) W)
    (fun _ _ _ => False)
    (fun s X Y row hs' hg hr => hs'.grown hg (fun r e => ⟨Nat.le_trans (by omega) (hr r e).1, (hr r e).2⟩))
    (fun _ _ _ _ _ hs' _ _ => hs')
    (by rw [divS_nil]; exact J0)
    (fun x => { tmps := #[wideV A, bitsV D, .pointer (some ⟨w.heap.size, 0, none⟩), .pointer (some ⟨w.heap.size + 1, 0, none⟩), .pointer (some ⟨w.heap.size + 1 + 1, 0, none⟩), .pointer (some ⟨w.heap.size + 1 + 1 + 1, 0, none⟩), .bool false, .pointer (some ⟨w.heap.size + 1 + 1 + 1 + 1, 0, none⟩), .pointer (some ⟨w.heap.size + 1 + 1 + 1 + 1 + 1, 0, none⟩),
      .int .i64 (255 - (x.val : Int)), .int .u64 (bitN A (255 - x.val) : Int), undef, bitsV D, .bool false, undef, undef, wideV A, .func (.func 91) #[] #[.pointer (some ⟨bn, 0, none⟩)], .int .i64 (255 - (x.val : Int)), .int .u64 (bitN A (255 - x.val) : Int),
      undef, undef, undef, undef, undef, undef, undef, undef, undef, undef, undef, undef, undef, undef, undef, undef, undef, undef, undef], defers := [] }) ?assign ?body ?done ?stop
  case assign =>
    intro l x W K hK
    unfold placeV
    gi_wp2
    exact hK
  case body =>
    rintro l pre ⟨x, hx⟩ W I0 _
    have hmx : Try.prog.follows .mixedOrders = true := by kernel_rfl
    obtain ⟨hwq, hlr⟩ := divS_inv A h0 pre
    have hst := divS_snoc A D pre ⟨x, hx⟩
    obtain ⟨q, r, hs⟩ : ∃ q r, divS A D pre = (q, r) := ⟨_, _, rfl⟩
    rw [hs] at hst hwq hlr I0
    dsimp only at hst hwq hlr
    have d0 := I0.d.cell 0 _ rfl
    have d1 := I0.d.cell 1 _ rfl
    have r0 := I0.r.cell 0 _ rfl
    have r1 := I0.r.cell 1 _ rfl
    have hb1 := bitN_le A (255 - x)
    obtain ⟨b, hb⟩ : ∃ b, bitN A (255 - x) = b := ⟨_, rfl⟩
    rw [hb] at hb1 hst
    simp only [hb]
    gi_wp2_with fail
    refine ⟨trivial, fun _ => by omega, ?_⟩
    gi_at_call 74
    refine (CallsIn.inRound l (callsIn_wide.2 (next_any hD hlr hb1 _))).mono ?_
    rintro e W1 ⟨rfl, hB⟩
    have I1 := I0.call hB
    have hB' := below_others hB
    clear hB d0 d1 r0 r1
    have R0 := I1.r.cell 0 _ rfl
    have R1 := I1.r.cell 1 _ rfl
    have Rf := I1.r.free
    have Rl := I1.r.lt
    cases ho : onceB r b D with
    | false =>
      gi_wp2
      have I2 := I1.setR (r' := nextN r b D) hbn
      refine ⟨(hB'.trans (KeepsOthers.setCell _ _ _)).trans (KeepsOthers.setCell _ _ _), fun _ => I2.n.four, ?_⟩
      show DivI w bn A D (divS A D (pre ++ [⟨x, hx⟩])) _
      rw [hst, ho]
      exact I2
    | true =>
      have I2 := I1.setR (r' := nextN r b D) hbn
      obtain ⟨i, hi⟩ : ∃ i : Nat, 255 - x = i := ⟨_, rfl⟩
      have hi2 : i < 256 := by omega
      have e0 : (255 : Int) - (x : Int) = (i : Int) := by omega
      rw [hi] at hst
      have c := I2.q.four (i / 64) (by omega)
      have I3 := (I2.setQ hbn hi2).drew
      have hqf := I1.q.free
      have e1 : bits .and .i64 (i : Int) 63 = ((i % 64 : Nat) : Int) := by rw [and63]; omega
      have e2 : (i : Int) / 64 = ((i / 64 : Nat) : Int) := by omega
      have g3 : i / 64 < 4 := by omega
      have g4 : i % 64 < 64 := by omega
      have e3 : IntKind.u64.wrap (2 ^ (i % 64)) = ((2 ^ (i % 64) : Nat) : Int) := by
        have h2 : (2 : Nat) ^ (i % 64) < 2 ^ 64 := Nat.pow_lt_pow_right (by omega) g4
        have h3 : ((2 : Int) ^ (i % 64)) = ((2 ^ (i % 64) : Nat) : Int) := by rw [Int.natCast_pow]; rfl
        rw [h3]
        have key : ∀ N : Nat, N < 2 ^ 64 → IntKind.u64.wrap (N : Int) = N := fun N h => wrap_u64 (by omega) (by omega)
        exact key _ h2
      dsimp only at c
      obtain ⟨pp, hpp⟩ : ∃ pp, ((2 ^ (i % 64) : Nat) : Int) = pp := ⟨_, rfl⟩
      rw [hpp] at e3 I3
      obtain ⟨si, hsi⟩ : ∃ si, i % 64 = si := ⟨_, rfl⟩
      obtain ⟨qi, hqi⟩ : ∃ qi, i / 64 = qi := ⟨_, rfl⟩
      rw [hsi] at e1 g4 e3
      rw [hqi] at e2 g3 c I3
      have g5 : (qi : Int) < 4 := by omega
      have HI := Lib.hid I3
      have HJ := Lib.hid hst
      have H1 := Lib.hid I1; have H2 := Lib.hid I2; have H0 := Lib.hid I0
      clear hst I1 I2 I3 I0 hpp hsi hqi
      gi_wp2
      refine round_region_head 7 (fun W' => W'.cell? ⟨w.heap.size + 1 + 1 + 1 + 1, qi, none⟩ = some (.int .u64 (limb qi q))) (by rintro ⟨_, _, h⟩; exact h) (by kernel_rfl) (by kernel_rfl) (by kernel_rfl) (by go_simp) ?_
      simp only [List.take_succ_cons, List.take_zero, List.drop_succ_cons, List.drop_zero]
      refine head_pure ?_ (fun _ _ _ h => h) (Or.inl ⟨by rfl, ?_⟩) ?_
      rotate_left
      · intro w; go_simp; first | done | with_reducible rfl
      simp only [Act.put, List.setIfInBounds_toArray, List.set_cons_zero, List.set_cons_succ]
      refine head_pure ?_ (fun _ _ _ h => h) (Or.inl ⟨by rfl, ?_⟩) ?_
      rotate_left
      · intro w; go_simp; first | done | with_reducible rfl
      simp only [Act.put, List.setIfInBounds_toArray, List.set_cons_zero, List.set_cons_succ]
      refine head_pure ?_ (fun _ _ _ h => h) (Or.inl ⟨by rfl, ?_⟩) ?_
      rotate_left
      · intro w; go_simp; first | done | with_reducible rfl
      simp only [Act.put, List.setIfInBounds_toArray, List.set_cons_zero, List.set_cons_succ]
      refine head_read ?_ (by kernel_rfl) (fun _ _ _ h => h) (Or.inl ⟨by rfl, ?_⟩) ?_
      rotate_left
      · intro w hS; (try dsimp only at hS); go_simp; first | done | with_reducible rfl
      simp only [Act.put, List.setIfInBounds_toArray, List.set_cons_zero, List.set_cons_succ]
      refine head_pure ?_ (fun _ _ _ h => h) (Or.inl ⟨by rfl, ?_⟩) ?_
      rotate_left
      · intro w; go_simp; first | done | with_reducible rfl
      simp only [Act.put, List.setIfInBounds_toArray, List.set_cons_zero, List.set_cons_succ]
      refine head_pure ?_ (fun _ _ _ h => h) (Or.inl ⟨by rfl, ?_⟩) ?_
      rotate_left
      · intro w; go_simp; first | done | with_reducible rfl
      simp only [Act.put, List.setIfInBounds_toArray, List.set_cons_zero, List.set_cons_succ]
      refine head_pure ?_ (fun _ _ _ h => h) (Or.inl ⟨by rfl, ?_⟩) ?_
      rotate_left
      · intro w; go_simp; first | done | with_reducible rfl
      simp only [Act.put, List.setIfInBounds_toArray, List.set_cons_zero, List.set_cons_succ]
      change wpList _ _ _ _ _ _
      go_wp2
      have I4 := HI.out
      refine ⟨(((hB'.trans (KeepsOthers.setCell _ _ _)).trans (KeepsOthers.setCell _ _ _)).trans (KeepsOthers.setCell _ _ _)).trans (KeepsOthers.drew _), fun _ => I4.n.four, ?_⟩
      show DivI w bn A D (divS A D (pre ++ [⟨x, hx⟩])) _
      rw [HJ.out, ho]
      exact I4
  case done =>
    rintro D' ys W hD' rfl I0 hK
    rw [divS_all hA h0] at I0
    have q0 := I0.q.cell 0 _ rfl
    have q1 := I0.q.cell 1 _ rfl
    have q2 := I0.q.cell 2 _ rfl
    have q3 := I0.q.cell 3 _ rfl
    have r0 := I0.r.cell 0 _ rfl
    have r1 := I0.r.cell 1 _ rfl
    have oq0 := I0.oq.cell 0 _ rfl
    have oq1 := I0.oq.cell 1 _ rfl
    have oq2 := I0.oq.cell 2 _ rfl
    have oq3 := I0.oq.cell 3 _ rfl
    have or0 := I0.orr.cell 0 _ rfl
    have or1 := I0.orr.cell 1 _ rfl
    have oqf := I0.oq.free
    have orf := I0.orr.free
    have oql := I0.oq.lt
    have orl := I0.orr.lt
    gi_wp2
    gi_region
    all_goals gi_wp2
    all_goals
      have hK' : (((((((W.setCell ⟨w.heap.size + 1 + 1, 0, none⟩ (.int .u64 (limb 0 (divN A D)))).setCell ⟨w.heap.size + 1 + 1, 1, none⟩ (.int .u64 (limb 1 (divN A D)))).setCell ⟨w.heap.size + 1 + 1, 2, none⟩ (.int .u64 (limb 2 (divN A D)))).setCell ⟨w.heap.size + 1 + 1, 3, none⟩ (.int .u64 (limb 3 (divN A D)))).setCell ⟨w.heap.size + 1 + 1 + 1, 0, none⟩ (.int .u64 (limb 1 (modN A D)))).setCell ⟨w.heap.size + 1 + 1 + 1, 1, none⟩ (.int .u64 (limb 0 (modN A D)))).drew).heap[D']? = some (.deferred (some [])) := (((((((KeepsOthers.setCell _ _ _).trans (KeepsOthers.setCell _ _ _)).trans (KeepsOthers.setCell _ _ _)).trans (KeepsOthers.setCell _ _ _)).trans (KeepsOthers.setCell _ _ _)).trans (KeepsOthers.setCell _ _ _)).trans (KeepsOthers.drew _)).same D' _ hK rfl
      have oq := I0.oq
      have orr := I0.orr
      have BQ : Box (((((((W.setCell ⟨w.heap.size + 1 + 1, 0, none⟩ (.int .u64 (limb 0 (divN A D)))).setCell ⟨w.heap.size + 1 + 1, 1, none⟩ (.int .u64 (limb 1 (divN A D)))).setCell ⟨w.heap.size + 1 + 1, 2, none⟩ (.int .u64 (limb 2 (divN A D)))).setCell ⟨w.heap.size + 1 + 1, 3, none⟩ (.int .u64 (limb 3 (divN A D)))).setCell ⟨w.heap.size + 1 + 1 + 1, 0, none⟩ (.int .u64 (limb 1 (modN A D)))).setCell ⟨w.heap.size + 1 + 1 + 1, 1, none⟩ (.int .u64 (limb 0 (modN A D)))).drew) (w.heap.size + 1 + 1) #[.int .u64 (limb 0 (divN A D)), .int .u64 (limb 1 (divN A D)), .int .u64 (limb 2 (divN A D)), .int .u64 (limb 3 (divN A D))] := by repeat (first | with_reducible assumption | with_reducible apply Box.set10 | with_reducible apply Box.set20 | with_reducible apply Box.set21 | with_reducible apply Box.set40 | with_reducible apply Box.set41 | with_reducible apply Box.set42 | with_reducible apply Box.set43 | with_reducible apply Box.set50 | with_reducible apply Box.set51 | with_reducible apply Box.set52 | with_reducible apply Box.set53 | with_reducible apply Box.set54 | with_reducible apply Box.drew | (with_reducible apply Box.newAt; (try simp only [World.size_alloc, World.size_setCell, World.size_drew]); done) | with_reducible apply Box.alloc | (with_reducible apply Box.other; case hne => ((try simp only [World.size_alloc, World.size_setCell, World.size_drew]); omega)))
      have BR : Box (((((((W.setCell ⟨w.heap.size + 1 + 1, 0, none⟩ (.int .u64 (limb 0 (divN A D)))).setCell ⟨w.heap.size + 1 + 1, 1, none⟩ (.int .u64 (limb 1 (divN A D)))).setCell ⟨w.heap.size + 1 + 1, 2, none⟩ (.int .u64 (limb 2 (divN A D)))).setCell ⟨w.heap.size + 1 + 1, 3, none⟩ (.int .u64 (limb 3 (divN A D)))).setCell ⟨w.heap.size + 1 + 1 + 1, 0, none⟩ (.int .u64 (limb 1 (modN A D)))).setCell ⟨w.heap.size + 1 + 1 + 1, 1, none⟩ (.int .u64 (limb 0 (modN A D)))).drew) (w.heap.size + 1 + 1 + 1) #[.int .u64 (limb 1 (modN A D)), .int .u64 (limb 0 (modN A D))] := by repeat (first | with_reducible assumption | with_reducible apply Box.set10 | with_reducible apply Box.set20 | with_reducible apply Box.set21 | with_reducible apply Box.set40 | with_reducible apply Box.set41 | with_reducible apply Box.set42 | with_reducible apply Box.set43 | with_reducible apply Box.set50 | with_reducible apply Box.set51 | with_reducible apply Box.set52 | with_reducible apply Box.set53 | with_reducible apply Box.set54 | with_reducible apply Box.drew | (with_reducible apply Box.newAt; (try simp only [World.size_alloc, World.size_setCell, World.size_drew]); done) | with_reducible apply Box.alloc | (with_reducible apply Box.other; case hne => ((try simp only [World.size_alloc, World.size_setCell, World.size_drew]); omega)))
      have hBX : Below w.heap.size w (((((((W.setCell ⟨w.heap.size + 1 + 1, 0, none⟩ (.int .u64 (limb 0 (divN A D)))).setCell ⟨w.heap.size + 1 + 1, 1, none⟩ (.int .u64 (limb 1 (divN A D)))).setCell ⟨w.heap.size + 1 + 1, 2, none⟩ (.int .u64 (limb 2 (divN A D)))).setCell ⟨w.heap.size + 1 + 1, 3, none⟩ (.int .u64 (limb 3 (divN A D)))).setCell ⟨w.heap.size + 1 + 1 + 1, 0, none⟩ (.int .u64 (limb 1 (modN A D)))).setCell ⟨w.heap.size + 1 + 1 + 1, 1, none⟩ (.int .u64 (limb 0 (modN A D)))).drew) := ((((((I0.old.setCell (by simp only []; omega) _).setCell (by simp only []; omega) _).setCell (by simp only []; omega) _).setCell (by simp only []; omega) _).setCell (by simp only []; omega) _).setCell (by simp only []; omega) _).drew
      clear oq orr q0 q1 q2 q3 r0 r1 oq0 oq1 oq2 oq3 or0 or1 oqf orf oql orl I0
      generalize (((((((W.setCell ⟨w.heap.size + 1 + 1, 0, none⟩ (.int .u64 (limb 0 (divN A D)))).setCell ⟨w.heap.size + 1 + 1, 1, none⟩ (.int .u64 (limb 1 (divN A D)))).setCell ⟨w.heap.size + 1 + 1, 2, none⟩ (.int .u64 (limb 2 (divN A D)))).setCell ⟨w.heap.size + 1 + 1, 3, none⟩ (.int .u64 (limb 3 (divN A D)))).setCell ⟨w.heap.size + 1 + 1 + 1, 0, none⟩ (.int .u64 (limb 1 (modN A D)))).setCell ⟨w.heap.size + 1 + 1 + 1, 1, none⟩ (.int .u64 (limb 0 (modN A D)))).drew) = X at *
      refine ⟨by simp, .inl ⟨_, _, rfl, run_takeDeferred hK', ?_⟩⟩
      have k0 := cell_kept (BQ.cell 0 _ rfl) (grownBy_putObj' _ D' (.deferred none)) (fun r e => by cases e; exact ⟨_, hK', rfl⟩)
      have k1 := cell_kept (BQ.cell 1 _ rfl) (grownBy_putObj' _ D' (.deferred none)) (fun r e => by cases e; exact ⟨_, hK', rfl⟩)
      have k2 := cell_kept (BQ.cell 2 _ rfl) (grownBy_putObj' _ D' (.deferred none)) (fun r e => by cases e; exact ⟨_, hK', rfl⟩)
      have k3 := cell_kept (BQ.cell 3 _ rfl) (grownBy_putObj' _ D' (.deferred none)) (fun r e => by cases e; exact ⟨_, hK', rfl⟩)
      have k4 := cell_kept (BR.cell 0 _ rfl) (grownBy_putObj' _ D' (.deferred none)) (fun r e => by cases e; exact ⟨_, hK', rfl⟩)
      have k5 := cell_kept (BR.cell 1 _ rfl) (grownBy_putObj' _ D' (.deferred none)) (fun r e => by cases e; exact ⟨_, hK', rfl⟩)
      refine ⟨.tuple #[wideV (divN A D), bitsV (modN A D), .bool true], ?_, rfl, hBX.trans (belowK_b (w := w2) (by omega) _ D' _ _ hD' hK' rfl rfl)⟩
      simp [results, Try.f34, go_sem, k0, k1, k2, k3, k4, k5]
  case stop =>
    rintro D c pre W _ _ h _
    exact h.elim
theorem Div_any {A D : Nat} (hA : W256 A) (hD : W128 D) (h0 : 0 < D) (w : World) :
    Calls Try.prog 34 #[wideV A, bitsV D] w fun e w' => e = .returned (.tuple #[wideV (divN A D), bitsV (modN A D), .bool true]) ∧ Below w.heap.size w w' :=
  (callsIn_wide (n := 3)).1 (Div_in 3 (by omega) hA hD h0 w)
end Go.Proofs.Ytglagdmfplgfaaa
