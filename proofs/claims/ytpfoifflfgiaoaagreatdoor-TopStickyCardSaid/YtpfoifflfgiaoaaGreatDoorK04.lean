/- Package quot: Div, Mod; wide.Mul. -/
import Derived.Test.YtpfoifflfgiaoaaGreatDoorK02
import Derived.Test.YtpfoifflfgiaoaaGreatDoorK03
import Derived.Test.YtpfoifflfgiaoaaGreatDoorK01
import Derived.LoopN
import Derived.OpenShut
set_option linter.unusedVariables false
set_option linter.unusedSimpArgs false
namespace Go.Proofs.YtpfoifflfgiaoaaGreatDoor
open Go.RowKit Go.Shelf
attribute [local go_sem] Oper.semAt_some

theorem Box.grown {A B : World} {row : Option Nat} {b : Nat} {vs : Array Value} (h : Box A b vs) (hg : A.grownBy B row) (hr : ∀ r, row = some r → ∃ o : Obj, A.heap[r]? = some o ∧ o.isCells = false) (hc : ∃ v, vs[0]? = some v) : Box B b vs :=
  ⟨Nat.lt_of_lt_of_le h.lt hg.size, fun i v hi => cell_kept (h.cell i v hi) hg hr, fun o => by
    have hb : B.heap[b]? = A.heap[b]? := hg.block b h.lt (by
      intro e
      obtain ⟨v, hv⟩ := hc
      obtain ⟨o, ho, hn⟩ := hr b e.symm
      have := h.cell 0 v hv
      unfold World.cell? at this
      simp only [ho] at this
      cases o <;> simp_all [Obj.isCells])
    exact (World.frozen?_of_block (a := ⟨b, o, none⟩) hb).trans (h.free o)⟩
theorem below_others {A B : World} (h : Below A.heap.size A B) : KeepsOthers A B := ⟨h.size, fun k o hk _ => (h.block k (Array.getElem?_eq_some_iff.1 hk).1).trans hk⟩
theorem Box.four {W : World} {b A : Nat} (h : Box W b #[.int .u64 (limb 0 A), .int .u64 (limb 1 A), .int .u64 (limb 2 A), .int .u64 (limb 3 A)]) : Four b (fun i => limb i A) W := fun i hi => by
  rcases (by omega : i = 0 ∨ i = 1 ∨ i = 2 ∨ i = 3) with rfl | rfl | rfl | rfl
  · exact h.cell 0 _ rfl
  · exact h.cell 1 _ rfl
  · exact h.cell 2 _ rfl
  · exact h.cell 3 _ rfl
theorem Box.layQ {W : World} {b q i : Nat} (h : Box W b #[.int .u64 (limb 0 q), .int .u64 (limb 1 q), .int .u64 (limb 2 q), .int .u64 (limb 3 q)]) (hi : i < 256) : Box (W.setCell ⟨b, i / 64, none⟩ (.int .u64 (bits .or .u64 (limb (i / 64) q) ((2 ^ (i % 64) : Nat) : Int)))) b #[.int .u64 (limb 0 (q ||| 2 ^ i)), .int .u64 (limb 1 (q ||| 2 ^ i)), .int .u64 (limb 2 (q ||| 2 ^ i)), .int .u64 (limb 3 (q ||| 2 ^ i))] := by
  rw [limb_layQ q i 0, limb_layQ q i 1, limb_layQ q i 2, limb_layQ q i 3]
  rcases (by omega : i / 64 = 0 ∨ i / 64 = 1 ∨ i / 64 = 2 ∨ i / 64 = 3) with e | e | e | e <;> rw [e] <;> simp (config := {decide := true}) only [if_true, if_false]
  · exact h.set40
  · exact h.set41
  · exact h.set42
  · exact h.set43

/-- what holds ahead of each round: the boxes, and old memory -/
structure DivI (w : World) (bn A D : Nat) (s : Nat × Nat) (W : World) : Prop where
  d : Box W (w.heap.size + 1) #[.int .u64 (limb 1 D), .int .u64 (limb 0 D)]
  oq : Box W (w.heap.size + 1 + 1) #[.int .u64 0, .int .u64 0, .int .u64 0, .int .u64 0]
  orr : Box W (w.heap.size + 1 + 1 + 1) #[.int .u64 0, .int .u64 0]
  q : Box W (w.heap.size + 1 + 1 + 1 + 1) #[.int .u64 (limb 0 s.1), .int .u64 (limb 1 s.1), .int .u64 (limb 2 s.1), .int .u64 (limb 3 s.1)]
  r : Box W (w.heap.size + 1 + 1 + 1 + 1 + 1) #[.int .u64 (limb 1 s.2), .int .u64 (limb 0 s.2)]
  n : Box W bn #[.int .u64 (limb 0 A), .int .u64 (limb 1 A), .int .u64 (limb 2 A), .int .u64 (limb 3 A)]
  old : Below w.heap.size w W
theorem DivI.grown {w : World} {bn A D : Nat} {s : Nat × Nat} {X Y : World} {row : Option Nat} (h : DivI w bn A D s X) (hg : X.grownBy Y row) (hr : ∀ r, row = some r → w.heap.size ≤ r ∧ ∃ o : Obj, X.heap[r]? = some o ∧ o.isCells = false) : DivI w bn A D s Y :=
  have hr' := fun r e => (hr r e).2
  ⟨h.d.grown hg hr' ⟨_, rfl⟩, h.oq.grown hg hr' ⟨_, rfl⟩, h.orr.grown hg hr' ⟨_, rfl⟩, h.q.grown hg hr' ⟨_, rfl⟩, h.r.grown hg hr' ⟨_, rfl⟩, h.n.grown hg hr' ⟨_, rfl⟩,
    h.old.grown hg h.old.size (fun k e => (hr k e).1)⟩
theorem DivI.call {w : World} {bn A D : Nat} {s : Nat × Nat} {X Y : World} (h : DivI w bn A D s X) (hb : Below X.heap.size X Y) : DivI w bn A D s Y :=
  ⟨h.d.call hb, h.oq.call hb, h.orr.call hb, h.q.call hb, h.r.call hb, h.n.call hb, h.old.trans (hb.mono h.old.size)⟩

theorem DivI.setR {w : World} {bn A D q r r' : Nat} {X : World} (h : DivI w bn A D (q, r) X) (hbn : w.heap.size + 1 + 1 + 1 + 1 + 1 < bn) : DivI w bn A D (q, r') ((X.setCell ⟨w.heap.size + 1 + 1 + 1 + 1 + 1, 0, none⟩ (.int .u64 (limb 1 r'))).setCell ⟨w.heap.size + 1 + 1 + 1 + 1 + 1, 1, none⟩ (.int .u64 (limb 0 r'))) :=
  ⟨(h.d.other (by omega)).other (by omega), (h.oq.other (by omega)).other (by omega), (h.orr.other (by omega)).other (by omega), (h.q.other (by omega)).other (by omega), h.r.set20.set21, (h.n.other (by omega)).other (by omega), (h.old.setCell (by simp only []; omega) _).setCell (by simp only []; omega) _⟩
theorem DivI.setQ {w : World} {bn A D q r i : Nat} {X : World} (h : DivI w bn A D (q, r) X) (hbn : w.heap.size + 1 + 1 + 1 + 1 + 1 < bn) (hi : i < 256) : DivI w bn A D (q ||| 2 ^ i, r) (X.setCell ⟨w.heap.size + 1 + 1 + 1 + 1, i / 64, none⟩ (.int .u64 (bits .or .u64 (limb (i / 64) q) ((2 ^ (i % 64) : Nat) : Int)))) :=
  ⟨h.d.other (by omega), h.oq.other (by omega), h.orr.other (by omega), h.q.layQ hi, h.r.other (by omega), h.n.other (by omega), h.old.setCell (by simp only []; omega) _⟩
theorem DivI.drew {w : World} {bn A D : Nat} {s : Nat × Nat} {X : World} (h : DivI w bn A D s X) : DivI w bn A D s X.drew := ⟨h.d.drew, h.oq.drew, h.orr.drew, h.q.drew, h.r.drew, h.n.drew, h.old.drew⟩

set_option maxRecDepth 100000 in
set_option maxHeartbeats 8000000 in
theorem Div_in (n : Nat) (hn : 3 ≤ n) {A D : Nat} (hA : W256 A) (hD : W128 D) (h0 : 0 < D) (w : World) :
    CallsIn Fence.wide n Tryz.prog 94 #[wideV A, bitsV D] w fun e w' => e = .returned (.tuple #[wideV (divN A D), bitsV (modN A D), .bool true]) ∧ Below w.heap.size w w' := by
  have h1 : 1 ≤ n := by omega
  have hk := Kept.refl w
  have hz : zeroB D = false := decide_eq_false (by omega)
  refine callsIn_of_wp_marks Tryz.func94 rfl trivial ?_ rfl
  simp only [Tryz.ntmps94, List.size_toArray, List.length_cons, List.length_nil, Nat.reduceAdd, Nat.reduceSub, Array.replicate_succ, Array.replicate_zero, List.push_toArray, List.append_toArray, List.nil_append, List.cons_append]
  gi_wp2_with fail
  refine ⟨trivial, ?_⟩
  gi_at_call 97
  refine (callsIn_wide.2 (Zero_at (IsBits.of hD) _)).mono ?_
  rintro e w1 ⟨rfl, hb⟩
  have Bn : Box w1 (w.heap.size) #[.int .u64 (limb 0 A), .int .u64 (limb 1 A), .int .u64 (limb 2 A), .int .u64 (limb 3 A)] := Box.call hb (by repeat (first | with_reducible assumption | with_reducible apply Box.set10 | with_reducible apply Box.set20 | with_reducible apply Box.set21 | with_reducible apply Box.set40 | with_reducible apply Box.set41 | with_reducible apply Box.set42 | with_reducible apply Box.set43 | with_reducible apply Box.set50 | with_reducible apply Box.set51 | with_reducible apply Box.set52 | with_reducible apply Box.set53 | with_reducible apply Box.set54 | with_reducible apply Box.drew | (with_reducible apply Box.newAt; (try simp only [World.size_alloc, World.size_setCell, World.size_drew]); done) | with_reducible apply Box.alloc | (with_reducible apply Box.other; case hne => ((try simp only [World.size_alloc, World.size_setCell, World.size_drew]); omega))))
  have Bd : Box w1 (w.heap.size + 1) #[.int .u64 (limb 1 D), .int .u64 (limb 0 D)] := Box.call hb (by repeat (first | with_reducible assumption | with_reducible apply Box.set10 | with_reducible apply Box.set20 | with_reducible apply Box.set21 | with_reducible apply Box.set40 | with_reducible apply Box.set41 | with_reducible apply Box.set42 | with_reducible apply Box.set43 | with_reducible apply Box.set50 | with_reducible apply Box.set51 | with_reducible apply Box.set52 | with_reducible apply Box.set53 | with_reducible apply Box.set54 | with_reducible apply Box.drew | (with_reducible apply Box.newAt; (try simp only [World.size_alloc, World.size_setCell, World.size_drew]); done) | with_reducible apply Box.alloc | (with_reducible apply Box.other; case hne => ((try simp only [World.size_alloc, World.size_setCell, World.size_drew]); omega))))
  have Bq : Box w1 (w.heap.size + 1 + 1) #[.int .u64 0, .int .u64 0, .int .u64 0, .int .u64 0] := Box.call hb (by repeat (first | with_reducible assumption | with_reducible apply Box.set10 | with_reducible apply Box.set20 | with_reducible apply Box.set21 | with_reducible apply Box.set40 | with_reducible apply Box.set41 | with_reducible apply Box.set42 | with_reducible apply Box.set43 | with_reducible apply Box.set50 | with_reducible apply Box.set51 | with_reducible apply Box.set52 | with_reducible apply Box.set53 | with_reducible apply Box.set54 | with_reducible apply Box.drew | (with_reducible apply Box.newAt; (try simp only [World.size_alloc, World.size_setCell, World.size_drew]); done) | with_reducible apply Box.alloc | (with_reducible apply Box.other; case hne => ((try simp only [World.size_alloc, World.size_setCell, World.size_drew]); omega))))
  have Br : Box w1 (w.heap.size + 1 + 1 + 1) #[.int .u64 0, .int .u64 0] := Box.call hb (by repeat (first | with_reducible assumption | with_reducible apply Box.set10 | with_reducible apply Box.set20 | with_reducible apply Box.set21 | with_reducible apply Box.set40 | with_reducible apply Box.set41 | with_reducible apply Box.set42 | with_reducible apply Box.set43 | with_reducible apply Box.set50 | with_reducible apply Box.set51 | with_reducible apply Box.set52 | with_reducible apply Box.set53 | with_reducible apply Box.set54 | with_reducible apply Box.drew | (with_reducible apply Box.newAt; (try simp only [World.size_alloc, World.size_setCell, World.size_drew]); done) | with_reducible apply Box.alloc | (with_reducible apply Box.other; case hne => ((try simp only [World.size_alloc, World.size_setCell, World.size_drew]); omega))))
  have Bx : Box w1 (w.heap.size + 1 + 1 + 1 + 1) #[.int .u64 0, .int .u64 0, .int .u64 0, .int .u64 0] := Box.call hb (by repeat (first | with_reducible assumption | with_reducible apply Box.set10 | with_reducible apply Box.set20 | with_reducible apply Box.set21 | with_reducible apply Box.set40 | with_reducible apply Box.set41 | with_reducible apply Box.set42 | with_reducible apply Box.set43 | with_reducible apply Box.set50 | with_reducible apply Box.set51 | with_reducible apply Box.set52 | with_reducible apply Box.set53 | with_reducible apply Box.set54 | with_reducible apply Box.drew | (with_reducible apply Box.newAt; (try simp only [World.size_alloc, World.size_setCell, World.size_drew]); done) | with_reducible apply Box.alloc | (with_reducible apply Box.other; case hne => ((try simp only [World.size_alloc, World.size_setCell, World.size_drew]); omega))))
  have By : Box w1 (w.heap.size + 1 + 1 + 1 + 1 + 1) #[.int .u64 0, .int .u64 0] := Box.call hb (by repeat (first | with_reducible assumption | with_reducible apply Box.set10 | with_reducible apply Box.set20 | with_reducible apply Box.set21 | with_reducible apply Box.set40 | with_reducible apply Box.set41 | with_reducible apply Box.set42 | with_reducible apply Box.set43 | with_reducible apply Box.set50 | with_reducible apply Box.set51 | with_reducible apply Box.set52 | with_reducible apply Box.set53 | with_reducible apply Box.set54 | with_reducible apply Box.drew | (with_reducible apply Box.newAt; (try simp only [World.size_alloc, World.size_setCell, World.size_drew]); done) | with_reducible apply Box.alloc | (with_reducible apply Box.other; case hne => ((try simp only [World.size_alloc, World.size_setCell, World.size_drew]); omega))))
  have hk1 : Kept w.heap.size w w1 := Kept.step (by repeat (first | with_reducible exact hk | with_reducible exact Kept.refl _ | with_reducible refine Kept.alloc ?_ _ | with_reducible refine Kept.drew ?_ | with_reducible refine Kept.setCell ?_ (by simp only [World.size_alloc, World.size_setCell, World.size_drew]; omega) _)) hb
  clear hb hk
  have n0 := Bn.cell 0 _ rfl
  have n1 := Bn.cell 1 _ rfl
  have n2 := Bn.cell 2 _ rfl
  have n3 := Bn.cell 3 _ rfl
  gi_wp2_with fail
  refine ⟨trivial, ?_⟩
  gi_at_call 166
  refine (digits_in Fence.wide _ trivial rfl A _).mono ?_
  rintro e w2 ⟨rfl, hb, BN⟩
  gi_wp2
  have J0 : DivI w w1.heap.size A D (0, 0) w2 := by
    refine ⟨Bd.call hb, Bq.call hb, Br.call hb, ?_, ?_, BN, hk1.below.trans (hb.mono hk1.size)⟩
    · simpa [limb] using Bx.call hb
    · simpa [limb] using By.call hb
  have hlt : w1.heap.size < w2.heap.size := BN.lt
  have hN := BN.four
  have hs := hk1.size
  have hbn := By.lt
  clear Bn Bd Bq Br Bx By n0 n1 n2 n3 hb BN
  generalize w1.heap.size = bn at *
  have hsz : w.heap.size + 1 + 1 + 1 + 1 + 1 < w2.heap.size := J0.r.lt
  refine wpIn_rangeFunc_ownF rfl h1 (gf := 235) (lb := #[.pointer (some ⟨bn, 0, none⟩)]) rfl trivial (enters_of Tryz.func235 (by kernel_rfl) rfl)
    (digits_stops Fence.wide (n - 1) trivial rfl (by omega) bn A w2 hlt hN) kpQ_t (fun W l o o' _ h hc _ => kpQ_b W l o o' h hc) (Below.refl _ _) (fun _ => by rfl)
    (fun pre W => DivI w bn A D (divS A D pre) W)
    (fun _ _ _ => False)
    (fun s X Y row hs' hg hr => hs'.grown hg (fun r e => ⟨Nat.le_trans (by omega) (hr r e).1, (hr r e).2⟩))
    (fun _ _ _ _ _ hs' _ _ => hs')
    (by rw [divS_nil]; exact J0)
    (fun x => { tmps := #[wideV A, bitsV D, .pointer (some ⟨w.heap.size, 0, none⟩), .pointer (some ⟨w.heap.size + 1, 0, none⟩), .pointer (some ⟨w.heap.size + 1 + 1, 0, none⟩), .pointer (some ⟨w.heap.size + 1 + 1 + 1, 0, none⟩), .bool false, .pointer (some ⟨w.heap.size + 1 + 1 + 1 + 1, 0, none⟩), .pointer (some ⟨w.heap.size + 1 + 1 + 1 + 1 + 1, 0, none⟩),
      .int .i64 (255 - (x.val : Int)), .int .u64 (bitN A (255 - x.val) : Int), undef, bitsV D, .bool false, undef, undef, wideV A, .func (.func 235) #[] #[.pointer (some ⟨bn, 0, none⟩)], .int .i64 (255 - (x.val : Int)), .int .u64 (bitN A (255 - x.val) : Int),
      undef, undef, undef, undef, undef, undef, undef, undef, undef, undef, undef, undef, undef, undef, undef, undef, undef, undef, undef], defers := [] }) ?assign ?body ?done ?stop
  case assign =>
    intro l x W K hK
    unfold placeV
    gi_wp2
    exact hK
  case body =>
    rintro l pre ⟨x, hx⟩ W I0 _
    have hmx : Tryz.prog.follows .mixedOrders = true := by kernel_rfl
    obtain ⟨hwq, hlr⟩ := divS_inv A h0 pre
    have hst := divS_snoc A D pre ⟨x, hx⟩
    obtain ⟨q, r, hs⟩ : ∃ q r, divS A D pre = (q, r) := ⟨_, _, rfl⟩
    rw [hs] at hst hwq hlr I0
    dsimp only at hst hwq hlr
    have d0 := I0.d.cell 0 _ rfl
    have d1 := I0.d.cell 1 _ rfl
    have r0 := I0.r.cell 0 _ rfl
    have r1 := I0.r.cell 1 _ rfl
    have hb1 := bitN_le A (255 - x)
    obtain ⟨b, hb⟩ : ∃ b, bitN A (255 - x) = b := ⟨_, rfl⟩
    rw [hb] at hb1 hst
    simp only [hb]
    gi_wp2_with fail
    refine ⟨trivial, fun _ => by omega, ?_⟩
    gi_at_call 167
    refine (CallsIn.inRound l (callsIn_wide.2 (next_any hD hlr hb1 _))).mono ?_
    rintro e W1 ⟨rfl, hB⟩
    have I1 := I0.call hB
    have hB' := below_others hB
    clear hB d0 d1 r0 r1
    have R0 := I1.r.cell 0 _ rfl
    have R1 := I1.r.cell 1 _ rfl
    have Rf := I1.r.free
    have Rl := I1.r.lt
    cases ho : onceB r b D with
    | false =>
      gi_wp2
      have I2 := I1.setR (r' := nextN r b D) hbn
      refine ⟨(hB'.trans (KeepsOthers.setCell _ _ _)).trans (KeepsOthers.setCell _ _ _), fun _ => I2.n.four, ?_⟩
      show DivI w bn A D (divS A D (pre ++ [⟨x, hx⟩])) _
      rw [hst, ho]
      exact I2
    | true =>
      have I2 := I1.setR (r' := nextN r b D) hbn
      obtain ⟨i, hi⟩ : ∃ i : Nat, 255 - x = i := ⟨_, rfl⟩
      have hi2 : i < 256 := by omega
      have e0 : (255 : Int) - (x : Int) = (i : Int) := by omega
      rw [hi] at hst
      have c := I2.q.four (i / 64) (by omega)
      have I3 := (I2.setQ hbn hi2).drew
      have hqf := I1.q.free
      have e1 : bits .and .i64 (i : Int) 63 = ((i % 64 : Nat) : Int) := by rw [and63]; omega
      have e2 : (i : Int) / 64 = ((i / 64 : Nat) : Int) := by omega
      have g3 : i / 64 < 4 := by omega
      have g4 : i % 64 < 64 := by omega
      have e3 : IntKind.u64.wrap (2 ^ (i % 64)) = ((2 ^ (i % 64) : Nat) : Int) := by
        have h2 : (2 : Nat) ^ (i % 64) < 2 ^ 64 := Nat.pow_lt_pow_right (by omega) g4
        have h3 : ((2 : Int) ^ (i % 64)) = ((2 ^ (i % 64) : Nat) : Int) := by rw [Int.natCast_pow]; rfl
        rw [h3]
        have key : ∀ N : Nat, N < 2 ^ 64 → IntKind.u64.wrap (N : Int) = N := fun N h => wrap_u64 (by omega) (by omega)
        exact key _ h2
      dsimp only at c
      obtain ⟨pp, hpp⟩ : ∃ pp, ((2 ^ (i % 64) : Nat) : Int) = pp := ⟨_, rfl⟩
      rw [hpp] at e3 I3
      obtain ⟨si, hsi⟩ : ∃ si, i % 64 = si := ⟨_, rfl⟩
      obtain ⟨qi, hqi⟩ : ∃ qi, i / 64 = qi := ⟨_, rfl⟩
      rw [hsi] at e1 g4 e3
      rw [hqi] at e2 g3 c I3
      have g5 : (qi : Int) < 4 := by omega
      have HI := Lib.hid I3
      have HJ := Lib.hid hst
      have H1 := Lib.hid I1; have H2 := Lib.hid I2; have H0 := Lib.hid I0
      clear hst I1 I2 I3 I0 hpp hsi hqi
      gi_wp2
      refine round_region_head 7 (fun W' => W'.cell? ⟨w.heap.size + 1 + 1 + 1 + 1, qi, none⟩ = some (.int .u64 (limb qi q))) (by rintro ⟨_, _, h⟩; exact h) (by kernel_rfl) (by kernel_rfl) (by kernel_rfl) (by go_simp) ?_
      simp only [List.take_succ_cons, List.take_zero, List.drop_succ_cons, List.drop_zero]
      refine head_pure ?_ (fun _ _ _ h => h) (Or.inl ⟨by rfl, ?_⟩) ?_
      rotate_left
      · intro w; go_simp; first | done | with_reducible rfl
      simp only [Act.put, List.setIfInBounds_toArray, List.set_cons_zero, List.set_cons_succ]
      refine head_pure ?_ (fun _ _ _ h => h) (Or.inl ⟨by rfl, ?_⟩) ?_
      rotate_left
      · intro w; go_simp; first | done | with_reducible rfl
      simp only [Act.put, List.setIfInBounds_toArray, List.set_cons_zero, List.set_cons_succ]
      refine head_pure ?_ (fun _ _ _ h => h) (Or.inl ⟨by rfl, ?_⟩) ?_
      rotate_left
      · intro w; go_simp; first | done | with_reducible rfl
      simp only [Act.put, List.setIfInBounds_toArray, List.set_cons_zero, List.set_cons_succ]
      refine head_read ?_ (by kernel_rfl) (fun _ _ _ h => h) (Or.inl ⟨by rfl, ?_⟩) ?_
      rotate_left
      · intro w hS; (try dsimp only at hS); go_simp; first | done | with_reducible rfl
      simp only [Act.put, List.setIfInBounds_toArray, List.set_cons_zero, List.set_cons_succ]
      refine head_pure ?_ (fun _ _ _ h => h) (Or.inl ⟨by rfl, ?_⟩) ?_
      rotate_left
      · intro w; go_simp; first | done | with_reducible rfl
      simp only [Act.put, List.setIfInBounds_toArray, List.set_cons_zero, List.set_cons_succ]
      refine head_pure ?_ (fun _ _ _ h => h) (Or.inl ⟨by rfl, ?_⟩) ?_
      rotate_left
      · intro w; go_simp; first | done | with_reducible rfl
      simp only [Act.put, List.setIfInBounds_toArray, List.set_cons_zero, List.set_cons_succ]
      refine head_pure ?_ (fun _ _ _ h => h) (Or.inl ⟨by rfl, ?_⟩) ?_
      rotate_left
      · intro w; go_simp; first | done | with_reducible rfl
      simp only [Act.put, List.setIfInBounds_toArray, List.set_cons_zero, List.set_cons_succ]
      change wpList _ _ _ _ _ _
      go_wp2
      have I4 := HI.out
      refine ⟨(((hB'.trans (KeepsOthers.setCell _ _ _)).trans (KeepsOthers.setCell _ _ _)).trans (KeepsOthers.setCell _ _ _)).trans (KeepsOthers.drew _), fun _ => I4.n.four, ?_⟩
      show DivI w bn A D (divS A D (pre ++ [⟨x, hx⟩])) _
      rw [HJ.out, ho]
      exact I4
  case done =>
    rintro D' ys W hD' rfl I0 hK
    rw [divS_all hA h0] at I0
    have q0 := I0.q.cell 0 _ rfl
    have q1 := I0.q.cell 1 _ rfl
    have q2 := I0.q.cell 2 _ rfl
    have q3 := I0.q.cell 3 _ rfl
    have r0 := I0.r.cell 0 _ rfl
    have r1 := I0.r.cell 1 _ rfl
    have oq0 := I0.oq.cell 0 _ rfl
    have oq1 := I0.oq.cell 1 _ rfl
    have oq2 := I0.oq.cell 2 _ rfl
    have oq3 := I0.oq.cell 3 _ rfl
    have or0 := I0.orr.cell 0 _ rfl
    have or1 := I0.orr.cell 1 _ rfl
    have oqf := I0.oq.free
    have orf := I0.orr.free
    have oql := I0.oq.lt
    have orl := I0.orr.lt
    gi_wp2
    gi_region
    all_goals gi_wp2
    all_goals
      have hK' : (((((((W.setCell ⟨w.heap.size + 1 + 1, 0, none⟩ (.int .u64 (limb 0 (divN A D)))).setCell ⟨w.heap.size + 1 + 1, 1, none⟩ (.int .u64 (limb 1 (divN A D)))).setCell ⟨w.heap.size + 1 + 1, 2, none⟩ (.int .u64 (limb 2 (divN A D)))).setCell ⟨w.heap.size + 1 + 1, 3, none⟩ (.int .u64 (limb 3 (divN A D)))).setCell ⟨w.heap.size + 1 + 1 + 1, 0, none⟩ (.int .u64 (limb 1 (modN A D)))).setCell ⟨w.heap.size + 1 + 1 + 1, 1, none⟩ (.int .u64 (limb 0 (modN A D)))).drew).heap[D']? = some (.deferred (some [])) := (((((((KeepsOthers.setCell _ _ _).trans (KeepsOthers.setCell _ _ _)).trans (KeepsOthers.setCell _ _ _)).trans (KeepsOthers.setCell _ _ _)).trans (KeepsOthers.setCell _ _ _)).trans (KeepsOthers.setCell _ _ _)).trans (KeepsOthers.drew _)).same D' _ hK rfl
      have oq := I0.oq
      have orr := I0.orr
      have BQ : Box (((((((W.setCell ⟨w.heap.size + 1 + 1, 0, none⟩ (.int .u64 (limb 0 (divN A D)))).setCell ⟨w.heap.size + 1 + 1, 1, none⟩ (.int .u64 (limb 1 (divN A D)))).setCell ⟨w.heap.size + 1 + 1, 2, none⟩ (.int .u64 (limb 2 (divN A D)))).setCell ⟨w.heap.size + 1 + 1, 3, none⟩ (.int .u64 (limb 3 (divN A D)))).setCell ⟨w.heap.size + 1 + 1 + 1, 0, none⟩ (.int .u64 (limb 1 (modN A D)))).setCell ⟨w.heap.size + 1 + 1 + 1, 1, none⟩ (.int .u64 (limb 0 (modN A D)))).drew) (w.heap.size + 1 + 1) #[.int .u64 (limb 0 (divN A D)), .int .u64 (limb 1 (divN A D)), .int .u64 (limb 2 (divN A D)), .int .u64 (limb 3 (divN A D))] := by repeat (first | with_reducible assumption | with_reducible apply Box.set10 | with_reducible apply Box.set20 | with_reducible apply Box.set21 | with_reducible apply Box.set40 | with_reducible apply Box.set41 | with_reducible apply Box.set42 | with_reducible apply Box.set43 | with_reducible apply Box.set50 | with_reducible apply Box.set51 | with_reducible apply Box.set52 | with_reducible apply Box.set53 | with_reducible apply Box.set54 | with_reducible apply Box.drew | (with_reducible apply Box.newAt; (try simp only [World.size_alloc, World.size_setCell, World.size_drew]); done) | with_reducible apply Box.alloc | (with_reducible apply Box.other; case hne => ((try simp only [World.size_alloc, World.size_setCell, World.size_drew]); omega)))
      have BR : Box (((((((W.setCell ⟨w.heap.size + 1 + 1, 0, none⟩ (.int .u64 (limb 0 (divN A D)))).setCell ⟨w.heap.size + 1 + 1, 1, none⟩ (.int .u64 (limb 1 (divN A D)))).setCell ⟨w.heap.size + 1 + 1, 2, none⟩ (.int .u64 (limb 2 (divN A D)))).setCell ⟨w.heap.size + 1 + 1, 3, none⟩ (.int .u64 (limb 3 (divN A D)))).setCell ⟨w.heap.size + 1 + 1 + 1, 0, none⟩ (.int .u64 (limb 1 (modN A D)))).setCell ⟨w.heap.size + 1 + 1 + 1, 1, none⟩ (.int .u64 (limb 0 (modN A D)))).drew) (w.heap.size + 1 + 1 + 1) #[.int .u64 (limb 1 (modN A D)), .int .u64 (limb 0 (modN A D))] := by repeat (first | with_reducible assumption | with_reducible apply Box.set10 | with_reducible apply Box.set20 | with_reducible apply Box.set21 | with_reducible apply Box.set40 | with_reducible apply Box.set41 | with_reducible apply Box.set42 | with_reducible apply Box.set43 | with_reducible apply Box.set50 | with_reducible apply Box.set51 | with_reducible apply Box.set52 | with_reducible apply Box.set53 | with_reducible apply Box.set54 | with_reducible apply Box.drew | (with_reducible apply Box.newAt; (try simp only [World.size_alloc, World.size_setCell, World.size_drew]); done) | with_reducible apply Box.alloc | (with_reducible apply Box.other; case hne => ((try simp only [World.size_alloc, World.size_setCell, World.size_drew]); omega)))
      have hBX : Below w.heap.size w (((((((W.setCell ⟨w.heap.size + 1 + 1, 0, none⟩ (.int .u64 (limb 0 (divN A D)))).setCell ⟨w.heap.size + 1 + 1, 1, none⟩ (.int .u64 (limb 1 (divN A D)))).setCell ⟨w.heap.size + 1 + 1, 2, none⟩ (.int .u64 (limb 2 (divN A D)))).setCell ⟨w.heap.size + 1 + 1, 3, none⟩ (.int .u64 (limb 3 (divN A D)))).setCell ⟨w.heap.size + 1 + 1 + 1, 0, none⟩ (.int .u64 (limb 1 (modN A D)))).setCell ⟨w.heap.size + 1 + 1 + 1, 1, none⟩ (.int .u64 (limb 0 (modN A D)))).drew) := ((((((I0.old.setCell (by simp only []; omega) _).setCell (by simp only []; omega) _).setCell (by simp only []; omega) _).setCell (by simp only []; omega) _).setCell (by simp only []; omega) _).setCell (by simp only []; omega) _).drew
      clear oq orr q0 q1 q2 q3 r0 r1 oq0 oq1 oq2 oq3 or0 or1 oqf orf oql orl I0
      generalize (((((((W.setCell ⟨w.heap.size + 1 + 1, 0, none⟩ (.int .u64 (limb 0 (divN A D)))).setCell ⟨w.heap.size + 1 + 1, 1, none⟩ (.int .u64 (limb 1 (divN A D)))).setCell ⟨w.heap.size + 1 + 1, 2, none⟩ (.int .u64 (limb 2 (divN A D)))).setCell ⟨w.heap.size + 1 + 1, 3, none⟩ (.int .u64 (limb 3 (divN A D)))).setCell ⟨w.heap.size + 1 + 1 + 1, 0, none⟩ (.int .u64 (limb 1 (modN A D)))).setCell ⟨w.heap.size + 1 + 1 + 1, 1, none⟩ (.int .u64 (limb 0 (modN A D)))).drew) = X at *
      refine ⟨by simp, .inl ⟨_, _, rfl, run_takeDeferred hK', ?_⟩⟩
      have k0 := cell_kept (BQ.cell 0 _ rfl) (grownBy_putObj' _ D' (.deferred none)) (fun r e => by cases e; exact ⟨_, hK', rfl⟩)
      have k1 := cell_kept (BQ.cell 1 _ rfl) (grownBy_putObj' _ D' (.deferred none)) (fun r e => by cases e; exact ⟨_, hK', rfl⟩)
      have k2 := cell_kept (BQ.cell 2 _ rfl) (grownBy_putObj' _ D' (.deferred none)) (fun r e => by cases e; exact ⟨_, hK', rfl⟩)
      have k3 := cell_kept (BQ.cell 3 _ rfl) (grownBy_putObj' _ D' (.deferred none)) (fun r e => by cases e; exact ⟨_, hK', rfl⟩)
      have k4 := cell_kept (BR.cell 0 _ rfl) (grownBy_putObj' _ D' (.deferred none)) (fun r e => by cases e; exact ⟨_, hK', rfl⟩)
      have k5 := cell_kept (BR.cell 1 _ rfl) (grownBy_putObj' _ D' (.deferred none)) (fun r e => by cases e; exact ⟨_, hK', rfl⟩)
      refine ⟨.tuple #[wideV (divN A D), bitsV (modN A D), .bool true], ?_, rfl, hBX.trans (belowK_b (w := w2) (by omega) _ D' _ _ hD' hK' rfl rfl)⟩
      simp [results, Tryz.f94, go_sem, k0, k1, k2, k3, k4, k5]
  case stop =>
    rintro D c pre W _ _ h _
    exact h.elim
theorem Div_any {A D : Nat} (hA : W256 A) (hD : W128 D) (h0 : 0 < D) (w : World) :
    Calls Tryz.prog 94 #[wideV A, bitsV D] w fun e w' => e = .returned (.tuple #[wideV (divN A D), bitsV (modN A D), .bool true]) ∧ Below w.heap.size w w' :=
  (callsIn_wide (n := 3)).1 (Div_in 3 (by omega) hA hD h0 w)
end Go.Proofs.YtpfoifflfgiaoaaGreatDoor
namespace Go.Proofs.YtpfoifflfgiaoaaGreatDoor
open Go.RowKit

theorem next_zero {r d : Nat} (hd : W128 d) (hr : r < d) (w : World) :
    Calls Tryz.prog 167 #[bitsV r, .int .u64 0, bitsV d] w fun e w' => e = .returned (.tuple #[bitsV (nextN r 0 d), .bool (onceB r 0 d)]) ∧ Below w.heap.size w w' := next_any hd hr (b := 0) (by omega) w
set_option maxRecDepth 100000 in
set_option maxHeartbeats 8000000 in
theorem Mod1_any {W : World} {r d b3 b5 b9 : Nat} {o : Bool} (n35 : b3 ≠ b5) (n39 : b3 ≠ b9) (n59 : b9 ≠ b5) (hd : W128 d) (hr : r < d) (h3 : Box W b3 #[.int .u64 (limb 1 r), .int .u64 (limb 0 r)]) (h5 : Box W b5 #[.int .u64 (limb 1 d), .int .u64 (limb 0 d)]) (h9 : Box W b9 #[.bool o]) :
    Calls Tryz.prog 240 #[.pointer (some ⟨b3, 0, none⟩), .pointer (some ⟨b5, 0, none⟩), .pointer (some ⟨b9, 0, none⟩)] W fun e w' => (∃ v, e = .returned v) ∧ Box w' b3 #[.int .u64 (limb 1 (nextN r 0 d)), .int .u64 (limb 0 (nextN r 0 d))] ∧ Box w' b5 #[.int .u64 (limb 1 d), .int .u64 (limb 0 d)] ∧ Box w' b9 #[.bool (onceB r 0 d)] ∧
      (∀ n0, n0 ≤ b3 → n0 ≤ b9 → n0 ≤ W.heap.size → Below n0 W w') ∧ (∀ b vs, b ≠ b3 → b ≠ b9 → Box W b vs → Box w' b vs) := by
  go_enter Tryz.func240, Tryz.ntmps240
  have r0 := h3.cell 0 _ rfl
  have r1 := h3.cell 1 _ rfl
  have d0 := h5.cell 0 _ rfl
  have d1 := h5.cell 1 _ rfl
  go_wp2_with fail
  refine (next_zero hd hr _).mono ?_
  rintro e w1 ⟨rfl, hb⟩
  clear r0 r1 d0 d1
  have B3 := h3.call hb
  have B5 := h5.call hb
  have B9 := h9.call hb
  have r0 := B3.cell 0 _ rfl
  have r1 := B3.cell 1 _ rfl
  have rf := B3.free
  have o0 := B9.cell 0 _ rfl
  have of := B9.free
  have nn1 := Ne.symm n35
  have nn2 := Ne.symm n39
  have nn3 := Ne.symm n59
  go_wp2
  go_end0
  refine ⟨⟨_, rfl⟩, ?_, ?_, ?_, fun n0 a b c => (((hb.mono c).setCell (by simp only []; omega) _).setCell (by simp only []; omega) _).setCell (by simp only []; omega) _, fun b vs h1 h2 hB => (((hB.call hb).other (by omega)).other (by omega)).other (by omega)⟩
  · exact (B3.set20.set21).other (by omega)
  · exact ((B5.other (by omega)).other (by omega)).other (by omega)
  · exact Box.set10 ((B9.other (by omega)).other (by omega))

/-- what holds ahead of each step -/
structure ModI (w : World) (bn r d k : Nat) (W : World) : Prop where
  fr : Box W w.heap.size #[.int .u64 (limb 1 (farN r d k)), .int .u64 (limb 0 (farN r d k))]
  fd : Box W (w.heap.size + 1) #[.int .u64 (limb 1 d), .int .u64 (limb 0 d)]
  fo : Box W (w.heap.size + 1 + 1) #[.int .u64 0, .int .u64 0]
  fodd : Box W bn #[.bool (oddF r d k)]
  old : Below w.heap.size w W
set_option maxRecDepth 100000 in
set_option maxHeartbeats 8000000 in
theorem Mod_any {r d : Nat} (hd : W128 d) (hr : r < d) (N : Nat) (hN : N ≤ 40000) (w : World) :
    Calls Tryz.prog 180 #[bitsV r, .int .i64 (N : Int), bitsV d] w fun e w' => e = .returned (.tuple #[bitsV (farN r d N), .bool (oddF r d N), .bool true]) ∧ Below w.heap.size w w' := by
  have hk := Kept.refl w
  have hw : W128 r := ⟨Nat.lt_trans hr hd.lt⟩
  have h0 : 0 < d := by omega
  have c1 := cmp_lt hr
  have c2 : ¬ (N : Int) < 0 := by omega
  have c3 : ¬ (40000 : Int) < (N : Int) := by omega
  go_enter Tryz.func180, Tryz.ntmps180
  go_wp2_with fail
  refine (Cmp_at (IsBits.of hw) (IsBits.of hd) _).mono ?_
  rintro e w1 ⟨rfl, hb⟩
  have Br : Box w1 (w.heap.size) #[.int .u64 (limb 1 r), .int .u64 (limb 0 r)] := Box.call hb (by repeat (first | with_reducible assumption | with_reducible apply Box.set10 | with_reducible apply Box.set20 | with_reducible apply Box.set21 | with_reducible apply Box.set40 | with_reducible apply Box.set41 | with_reducible apply Box.set42 | with_reducible apply Box.set43 | with_reducible apply Box.set50 | with_reducible apply Box.set51 | with_reducible apply Box.set52 | with_reducible apply Box.set53 | with_reducible apply Box.set54 | with_reducible apply Box.drew | (with_reducible apply Box.newAt; (try simp only [World.size_alloc, World.size_setCell, World.size_drew]); done) | with_reducible apply Box.alloc | (with_reducible apply Box.other; case hne => ((try simp only [World.size_alloc, World.size_setCell, World.size_drew]); omega))))
  have Bd : Box w1 (w.heap.size + 1) #[.int .u64 (limb 1 d), .int .u64 (limb 0 d)] := Box.call hb (by repeat (first | with_reducible assumption | with_reducible apply Box.set10 | with_reducible apply Box.set20 | with_reducible apply Box.set21 | with_reducible apply Box.set40 | with_reducible apply Box.set41 | with_reducible apply Box.set42 | with_reducible apply Box.set43 | with_reducible apply Box.set50 | with_reducible apply Box.set51 | with_reducible apply Box.set52 | with_reducible apply Box.set53 | with_reducible apply Box.set54 | with_reducible apply Box.drew | (with_reducible apply Box.newAt; (try simp only [World.size_alloc, World.size_setCell, World.size_drew]); done) | with_reducible apply Box.alloc | (with_reducible apply Box.other; case hne => ((try simp only [World.size_alloc, World.size_setCell, World.size_drew]); omega))))
  have Bo : Box w1 (w.heap.size + 1 + 1) #[.int .u64 0, .int .u64 0] := Box.call hb (by repeat (first | with_reducible assumption | with_reducible apply Box.set10 | with_reducible apply Box.set20 | with_reducible apply Box.set21 | with_reducible apply Box.set40 | with_reducible apply Box.set41 | with_reducible apply Box.set42 | with_reducible apply Box.set43 | with_reducible apply Box.set50 | with_reducible apply Box.set51 | with_reducible apply Box.set52 | with_reducible apply Box.set53 | with_reducible apply Box.set54 | with_reducible apply Box.drew | (with_reducible apply Box.newAt; (try simp only [World.size_alloc, World.size_setCell, World.size_drew]); done) | with_reducible apply Box.alloc | (with_reducible apply Box.other; case hne => ((try simp only [World.size_alloc, World.size_setCell, World.size_drew]); omega))))
  have hk1 : Kept w.heap.size w w1 := Kept.step (by repeat (first | with_reducible exact hk | with_reducible exact Kept.refl _ | with_reducible refine Kept.alloc ?_ _ | with_reducible refine Kept.drew ?_ | with_reducible refine Kept.setCell ?_ (by simp only [World.size_alloc, World.size_setCell, World.size_drew]; omega) _)) hb
  have hl := Bo.lt
  clear hb hk
  have I0 : ∀ t, ModI w w1.heap.size r d 0 (w1.alloc (.cells #[.bool false] t)) := fun t => ⟨(by rw [far_zero hr]; exact Br : Box w1 (w.heap.size) #[.int .u64 (limb 1 (farN r d 0)), .int .u64 (limb 0 (farN r d 0))]).alloc _, Bd.alloc _, Bo.alloc _, by rw [odd_zero hr]; exact Box.newAt rfl,
    hk1.below.alloc hk1.size _⟩
  have hs := hk1.size
  clear Br Bd Bo hk1
  generalize hbn : w1.heap.size = bn at *
  go_wp2
  go_loopw [26] (fun i wr => ∃ k : Nat, k ≤ N ∧ i = .int .i64 (k : Int) ∧ ModI w bn r d k wr) (fun i _ => N - (intOf i).toNat)
  case atStart => exact ⟨0, Nat.zero_le _, rfl, I0 _⟩
  case round =>
    obtain ⟨k, hk, rfl, hI⟩ := hrel
    by_cases hlt : k < N
    · have hlt' : (k : Int) < (N : Int) := by omega
      have wi : IntKind.i64.wrap ((k : Int) + 1) = (k : Int) + 1 := IntWalk.i64_in _ (by omega)
      go_wp2_with fail
      refine (Mod1_any (by omega) (by omega) (by omega) hd (far_lt r h0 k) hI.fr hI.fd hI.fodd).mono ?_
      rintro e W1 ⟨⟨v, rfl⟩, h3, h5, h9, hbl, hoth⟩
      have hI2 : ModI w bn r d (k + 1) W1 := ⟨by rw [far_step r h0]; exact h3, h5, hoth _ _ (by omega) (by omega) hI.fo, by rw [odd_step r h0]; exact h9, hI.old.trans (hbl _ (Nat.le_refl _) hs hI.old.size)⟩
      clear h3 h5 h9 hbl hoth hI
      go_wp2
      go_roundw
      case rel => exact ⟨k + 1, by omega, by simp, hI2⟩
      case measure => simp [intOf]; omega
    · have hge : ¬ (k : Int) < (N : Int) := by omega
      have hkN : k = N := by omega
      subst hkN
      have f0 := hI.fr.cell 0 _ rfl
      have f1 := hI.fr.cell 1 _ rfl
      have o0 := hI.fo.cell 0 _ rfl
      have o1 := hI.fo.cell 1 _ rfl
      have of := hI.fo.free
      have b0 := hI.fodd.cell 0 _ rfl
      go_wp2
      go_region
      all_goals go_wp2
      all_goals
        refine bodyPost_ret (v := .tuple #[bitsV (farN r d k), .bool (oddF r d k), .bool true]) (by simp [results, Tryz.results180, go_sem, o0, o1]) rfl ⟨rfl, ?_⟩
        exact ((hI.old.setCell (by simp only []; omega) _).setCell (by simp only []; omega) _).drew
set_option maxRecDepth 100000 in
set_option maxHeartbeats 8000000 in
theorem Mod_no1 {r d : Nat} (hw : W128 r) (hd : W128 d) (z : Int) (h : d ≤ r) (w : World) :
    Calls Tryz.prog 180 #[bitsV r, .int .i64 z, bitsV d] w fun e w' => e = .returned (.tuple #[.agg #[.int .u64 0, .int .u64 0], .bool false, .bool false]) ∧ Below w.heap.size w w' := by
  have hk := Kept.refl w
  have c1 : 0 ≤ cmpN r d := by have := @cmp_neg r d; omega
  go_enter Tryz.func180, Tryz.ntmps180
  go_wp2_with fail
  (with_reducible refine (Cmp_at (IsBits.of hw) (IsBits.of hd) _).mono ?_)
  rintro e w1 ⟨rfl, hb⟩
  have X3' : Box w1 (w.heap.size + 1 + 1) #[.int .u64 0, .int .u64 0] := Box.call hb (by repeat (first | with_reducible assumption | with_reducible apply Box.set10 | with_reducible apply Box.set20 | with_reducible apply Box.set21 | with_reducible apply Box.set40 | with_reducible apply Box.set41 | with_reducible apply Box.set42 | with_reducible apply Box.set43 | with_reducible apply Box.set50 | with_reducible apply Box.set51 | with_reducible apply Box.set52 | with_reducible apply Box.set53 | with_reducible apply Box.set54 | with_reducible apply Box.drew | (with_reducible apply Box.newAt; (try simp only [World.size_alloc, World.size_setCell, World.size_drew]); done) | with_reducible apply Box.alloc | (with_reducible apply Box.other; case hne => ((try simp only [World.size_alloc, World.size_setCell, World.size_drew]); omega))))
  have hk' : Kept w.heap.size w w1 := Kept.step (by repeat (first | with_reducible exact hk | with_reducible exact Kept.refl _ | with_reducible refine Kept.alloc ?_ _ | with_reducible refine Kept.drew ?_ | with_reducible refine Kept.setCell ?_ (by simp only [World.size_alloc, World.size_setCell, World.size_drew]; omega) _)) hb
  clear hk hb
  have X3 := X3'
  clear X3'
  have hk := hk'
  clear hk'
  have hz_w1 := hk.size
  have X3l := X3.lt
  have X3f := X3.free
  have X3l1 : w.heap.size + 1 + 1 < w1.heap.size + 1 := by omega
  have X3l2 : w.heap.size + 1 + 1 < w1.heap.size + 1 + 1 := by omega
  have X3l3 : w.heap.size + 1 + 1 < w1.heap.size + 1 + 1 + 1 := by omega
  have X30 := X3.cell 0 _ rfl
  have X31 := X3.cell 1 _ rfl
  go_wp2
  refine bodyPost_ret (v := .tuple #[.agg #[.int .u64 0, .int .u64 0], .bool false, .bool false]) (by simp [results, Tryz.results180, go_sem, X30, X31]) rfl ⟨rfl, ?_⟩
  refine Kept.below ?_; repeat (first | with_reducible exact hk | with_reducible exact Kept.refl _ | with_reducible refine Kept.alloc ?_ _ | with_reducible refine Kept.drew ?_ | with_reducible refine Kept.setCell ?_ (by simp only [World.size_alloc, World.size_setCell, World.size_drew]; omega) _)

set_option maxRecDepth 100000 in
set_option maxHeartbeats 8000000 in
theorem Mod_no2 {r d : Nat} (hw : W128 r) (hd : W128 d) (z : Int) (h : r < d) (h2 : z < 0) (w : World) :
    Calls Tryz.prog 180 #[bitsV r, .int .i64 z, bitsV d] w fun e w' => e = .returned (.tuple #[.agg #[.int .u64 0, .int .u64 0], .bool false, .bool false]) ∧ Below w.heap.size w w' := by
  have hk := Kept.refl w
  have c1 := cmp_lt h
  go_enter Tryz.func180, Tryz.ntmps180
  go_wp2_with fail
  (with_reducible refine (Cmp_at (IsBits.of hw) (IsBits.of hd) _).mono ?_)
  rintro e w1 ⟨rfl, hb⟩
  have X3' : Box w1 (w.heap.size + 1 + 1) #[.int .u64 0, .int .u64 0] := Box.call hb (by repeat (first | with_reducible assumption | with_reducible apply Box.set10 | with_reducible apply Box.set20 | with_reducible apply Box.set21 | with_reducible apply Box.set40 | with_reducible apply Box.set41 | with_reducible apply Box.set42 | with_reducible apply Box.set43 | with_reducible apply Box.set50 | with_reducible apply Box.set51 | with_reducible apply Box.set52 | with_reducible apply Box.set53 | with_reducible apply Box.set54 | with_reducible apply Box.drew | (with_reducible apply Box.newAt; (try simp only [World.size_alloc, World.size_setCell, World.size_drew]); done) | with_reducible apply Box.alloc | (with_reducible apply Box.other; case hne => ((try simp only [World.size_alloc, World.size_setCell, World.size_drew]); omega))))
  have hk' : Kept w.heap.size w w1 := Kept.step (by repeat (first | with_reducible exact hk | with_reducible exact Kept.refl _ | with_reducible refine Kept.alloc ?_ _ | with_reducible refine Kept.drew ?_ | with_reducible refine Kept.setCell ?_ (by simp only [World.size_alloc, World.size_setCell, World.size_drew]; omega) _)) hb
  clear hk hb
  have X3 := X3'
  clear X3'
  have hk := hk'
  clear hk'
  have hz_w1 := hk.size
  have X3l := X3.lt
  have X3f := X3.free
  have X3l1 : w.heap.size + 1 + 1 < w1.heap.size + 1 := by omega
  have X3l2 : w.heap.size + 1 + 1 < w1.heap.size + 1 + 1 := by omega
  have X3l3 : w.heap.size + 1 + 1 < w1.heap.size + 1 + 1 + 1 := by omega
  have X30 := X3.cell 0 _ rfl
  have X31 := X3.cell 1 _ rfl
  go_wp2
  refine bodyPost_ret (v := .tuple #[.agg #[.int .u64 0, .int .u64 0], .bool false, .bool false]) (by simp [results, Tryz.results180, go_sem, X30, X31]) rfl ⟨rfl, ?_⟩
  refine Kept.below ?_; repeat (first | with_reducible exact hk | with_reducible exact Kept.refl _ | with_reducible refine Kept.alloc ?_ _ | with_reducible refine Kept.drew ?_ | with_reducible refine Kept.setCell ?_ (by simp only [World.size_alloc, World.size_setCell, World.size_drew]; omega) _)

set_option maxRecDepth 100000 in
set_option maxHeartbeats 8000000 in
theorem Mod_no3 {r d : Nat} (hw : W128 r) (hd : W128 d) (z : Int) (h : r < d) (h2 : ¬ z < 0) (h3 : 40000 < z) (w : World) :
    Calls Tryz.prog 180 #[bitsV r, .int .i64 z, bitsV d] w fun e w' => e = .returned (.tuple #[.agg #[.int .u64 0, .int .u64 0], .bool false, .bool false]) ∧ Below w.heap.size w w' := by
  have hk := Kept.refl w
  have c1 := cmp_lt h
  go_enter Tryz.func180, Tryz.ntmps180
  go_wp2_with fail
  (with_reducible refine (Cmp_at (IsBits.of hw) (IsBits.of hd) _).mono ?_)
  rintro e w1 ⟨rfl, hb⟩
  have X3' : Box w1 (w.heap.size + 1 + 1) #[.int .u64 0, .int .u64 0] := Box.call hb (by repeat (first | with_reducible assumption | with_reducible apply Box.set10 | with_reducible apply Box.set20 | with_reducible apply Box.set21 | with_reducible apply Box.set40 | with_reducible apply Box.set41 | with_reducible apply Box.set42 | with_reducible apply Box.set43 | with_reducible apply Box.set50 | with_reducible apply Box.set51 | with_reducible apply Box.set52 | with_reducible apply Box.set53 | with_reducible apply Box.set54 | with_reducible apply Box.drew | (with_reducible apply Box.newAt; (try simp only [World.size_alloc, World.size_setCell, World.size_drew]); done) | with_reducible apply Box.alloc | (with_reducible apply Box.other; case hne => ((try simp only [World.size_alloc, World.size_setCell, World.size_drew]); omega))))
  have hk' : Kept w.heap.size w w1 := Kept.step (by repeat (first | with_reducible exact hk | with_reducible exact Kept.refl _ | with_reducible refine Kept.alloc ?_ _ | with_reducible refine Kept.drew ?_ | with_reducible refine Kept.setCell ?_ (by simp only [World.size_alloc, World.size_setCell, World.size_drew]; omega) _)) hb
  clear hk hb
  have X3 := X3'
  clear X3'
  have hk := hk'
  clear hk'
  have hz_w1 := hk.size
  have X3l := X3.lt
  have X3f := X3.free
  have X3l1 : w.heap.size + 1 + 1 < w1.heap.size + 1 := by omega
  have X3l2 : w.heap.size + 1 + 1 < w1.heap.size + 1 + 1 := by omega
  have X3l3 : w.heap.size + 1 + 1 < w1.heap.size + 1 + 1 + 1 := by omega
  have X30 := X3.cell 0 _ rfl
  have X31 := X3.cell 1 _ rfl
  go_wp2
  refine bodyPost_ret (v := .tuple #[.agg #[.int .u64 0, .int .u64 0], .bool false, .bool false]) (by simp [results, Tryz.results180, go_sem, X30, X31]) rfl ⟨rfl, ?_⟩
  refine Kept.below ?_; repeat (first | with_reducible exact hk | with_reducible exact Kept.refl _ | with_reducible refine Kept.alloc ?_ _ | with_reducible refine Kept.drew ?_ | with_reducible refine Kept.setCell ?_ (by simp only [World.size_alloc, World.size_setCell, World.size_drew]; omega) _)

set_option maxRecDepth 100000 in
set_option maxHeartbeats 8000000 in
theorem Div_zero {A D : Nat} (hA : W256 A) (hD : W128 D) (h0 : D = 0) (w : World) :
    Calls Tryz.prog 94 #[wideV A, bitsV D] w fun e w' => e = .returned (.tuple #[.agg #[.int .u64 0, .int .u64 0, .int .u64 0, .int .u64 0], .agg #[.int .u64 0, .int .u64 0], .bool false]) ∧ Below w.heap.size w w' := by
  have hk := Kept.refl w
  have c1 : zeroB D = true := decide_eq_true h0
  clear h0
  go_enter Tryz.func94, Tryz.ntmps94
  go_wp2_with fail
  refine (Zero_at (IsBits.of hD) _).mono ?_
  rintro e w1 ⟨rfl, hb⟩
  have Bq : Box w1 (w.heap.size + 1 + 1) #[.int .u64 0, .int .u64 0, .int .u64 0, .int .u64 0] := Box.call hb (by repeat (first | with_reducible assumption | with_reducible apply Box.set10 | with_reducible apply Box.set20 | with_reducible apply Box.set21 | with_reducible apply Box.set40 | with_reducible apply Box.set41 | with_reducible apply Box.set42 | with_reducible apply Box.set43 | with_reducible apply Box.set50 | with_reducible apply Box.set51 | with_reducible apply Box.set52 | with_reducible apply Box.set53 | with_reducible apply Box.set54 | with_reducible apply Box.drew | (with_reducible apply Box.newAt; (try simp only [World.size_alloc, World.size_setCell, World.size_drew]); done) | with_reducible apply Box.alloc | (with_reducible apply Box.other; case hne => ((try simp only [World.size_alloc, World.size_setCell, World.size_drew]); omega))))
  have Br : Box w1 (w.heap.size + 1 + 1 + 1) #[.int .u64 0, .int .u64 0] := Box.call hb (by repeat (first | with_reducible assumption | with_reducible apply Box.set10 | with_reducible apply Box.set20 | with_reducible apply Box.set21 | with_reducible apply Box.set40 | with_reducible apply Box.set41 | with_reducible apply Box.set42 | with_reducible apply Box.set43 | with_reducible apply Box.set50 | with_reducible apply Box.set51 | with_reducible apply Box.set52 | with_reducible apply Box.set53 | with_reducible apply Box.set54 | with_reducible apply Box.drew | (with_reducible apply Box.newAt; (try simp only [World.size_alloc, World.size_setCell, World.size_drew]); done) | with_reducible apply Box.alloc | (with_reducible apply Box.other; case hne => ((try simp only [World.size_alloc, World.size_setCell, World.size_drew]); omega))))
  have Bx : Box w1 (w.heap.size + 1 + 1 + 1 + 1) #[.int .u64 0, .int .u64 0, .int .u64 0, .int .u64 0] := Box.call hb (by repeat (first | with_reducible assumption | with_reducible apply Box.set10 | with_reducible apply Box.set20 | with_reducible apply Box.set21 | with_reducible apply Box.set40 | with_reducible apply Box.set41 | with_reducible apply Box.set42 | with_reducible apply Box.set43 | with_reducible apply Box.set50 | with_reducible apply Box.set51 | with_reducible apply Box.set52 | with_reducible apply Box.set53 | with_reducible apply Box.set54 | with_reducible apply Box.drew | (with_reducible apply Box.newAt; (try simp only [World.size_alloc, World.size_setCell, World.size_drew]); done) | with_reducible apply Box.alloc | (with_reducible apply Box.other; case hne => ((try simp only [World.size_alloc, World.size_setCell, World.size_drew]); omega))))
  have By : Box w1 (w.heap.size + 1 + 1 + 1 + 1 + 1) #[.int .u64 0, .int .u64 0] := Box.call hb (by repeat (first | with_reducible assumption | with_reducible apply Box.set10 | with_reducible apply Box.set20 | with_reducible apply Box.set21 | with_reducible apply Box.set40 | with_reducible apply Box.set41 | with_reducible apply Box.set42 | with_reducible apply Box.set43 | with_reducible apply Box.set50 | with_reducible apply Box.set51 | with_reducible apply Box.set52 | with_reducible apply Box.set53 | with_reducible apply Box.set54 | with_reducible apply Box.drew | (with_reducible apply Box.newAt; (try simp only [World.size_alloc, World.size_setCell, World.size_drew]); done) | with_reducible apply Box.alloc | (with_reducible apply Box.other; case hne => ((try simp only [World.size_alloc, World.size_setCell, World.size_drew]); omega))))
  have hk1 : Kept w.heap.size w w1 := Kept.step (by repeat (first | with_reducible exact hk | with_reducible exact Kept.refl _ | with_reducible refine Kept.alloc ?_ _ | with_reducible refine Kept.drew ?_ | with_reducible refine Kept.setCell ?_ (by simp only [World.size_alloc, World.size_setCell, World.size_drew]; omega) _)) hb
  clear hb hk
  have a0 := Bq.cell 0 _ rfl
  have a1 := Bq.cell 1 _ rfl
  have a2 := Bq.cell 2 _ rfl
  have a3 := Bq.cell 3 _ rfl
  have b0 := Br.cell 0 _ rfl
  have b1 := Br.cell 1 _ rfl
  have c0 := Bx.cell 0 _ rfl
  have c2 := Bx.cell 1 _ rfl
  have c3 := Bx.cell 2 _ rfl
  have c4 := Bx.cell 3 _ rfl
  have d0 := By.cell 0 _ rfl
  have d1 := By.cell 1 _ rfl
  have qf := Bq.free
  have rf := Br.free
  go_wp2
  go_region
  all_goals go_wp2
  all_goals
    refine bodyPost_ret (v := .tuple #[.agg #[.int .u64 0, .int .u64 0, .int .u64 0, .int .u64 0], .agg #[.int .u64 0, .int .u64 0], .bool false]) (by simp [results, Tryz.results94, go_sem, a0, a1, a2, a3, b0, b1]) rfl ⟨rfl, ?_⟩
    refine Kept.below ?_
    repeat (first | with_reducible exact hk1 | with_reducible refine Kept.drew ?_ | with_reducible refine Kept.setCell ?_ (by simp only []; omega) _)
end Go.Proofs.YtpfoifflfgiaoaaGreatDoor
namespace Go.Proofs.YtpfoifflfgiaoaaGreatDoor
open Go.RowKit

end Go.Proofs.YtpfoifflfgiaoaaGreatDoor
namespace Go.Proofs.YtpfoifflfgiaoaaGreatDoor
open Go.RowKit

@[irreducible] def mulN (A B : Nat) : Nat := A * B
theorem mulN_def (A B : Nat) : mulN A B = A * B := by unfold mulN; rfl
theorem mulN_lt {A B : Nat} (hA : W128 A) (hB : W128 B) : A * B < 2 ^ 256 := by
  have a := hA.lt; have b := hB.lt
  have h1 : A ≤ 2 ^ 128 - 1 := by omega
  have h2 : B ≤ 2 ^ 128 - 1 := by omega
  have := Nat.mul_le_mul h1 h2
  omega
theorem mulN_w {A B : Nat} (hA : W128 A) (hB : W128 B) : W256 (mulN A B) := ⟨by rw [mulN_def]; exact mulN_lt hA hB⟩
theorem mul_u64 {x y : Int} (hx : U64 x) (hy : U64 y) : W128 (mulI x y) := ⟨by
  unfold mulI
  have := hx.hi; have := hy.hi; have := hx.lo; have := hy.lo
  have h1 : x.toNat ≤ 2 ^ 64 - 1 := by omega
  have h2 : y.toNat ≤ 2 ^ 64 - 1 := by omega
  have := Nat.mul_le_mul h1 h2
  omega⟩
theorem wide_mid {M : Nat} (h : W128 M) : IsWide 0 (limb 0 M) (limb 1 M) 0 (M * 2 ^ 64) := by
  have := h.lt
  refine ⟨⟨by omega⟩, ?_, ?_, ?_, ?_⟩ <;> unfold limb <;> omega
def mulParts (A B : Nat) : Nat := add256 (add256 (joinN (mulI (limb 1 A) (limb 1 B)) (mulI (limb 0 A) (limb 0 B))) (mulI (limb 1 A) (limb 0 B) * 2 ^ 64)) (mulI (limb 0 A) (limb 1 B) * 2 ^ 64)
theorem mul_parts {A B : Nat} (hA : W128 A) (hB : W128 B) : mulParts A B = A * B := by
  have a := hA.lt; have b := hB.lt
  have hlt : A * B < 2 ^ 256 := by
    have h1 : A ≤ 2 ^ 128 - 1 := by omega
    have h2 : B ≤ 2 ^ 128 - 1 := by omega
    have := Nat.mul_le_mul h1 h2
    omega
  have eA : (limb 0 A).toNat + (limb 1 A).toNat * 2 ^ 64 = A := val2_limb A a
  have eB : (limb 0 B).toNat + (limb 1 B).toNat * 2 ^ 64 = B := val2_limb B b
  unfold mulParts add256 joinN mulI
  simp only [Nat.mod_add_mod]
  generalize (limb 0 A).toNat = x at *
  generalize (limb 1 A).toNat = y at *
  generalize (limb 0 B).toNat = z at *
  generalize (limb 1 B).toNat = t at *
  have e : y * t * 2 ^ 128 + x * z + y * z * 2 ^ 64 + x * t * 2 ^ 64 = A * B := by
    rw [← eA, ← eB, Nat.add_mul, Nat.mul_add, Nat.mul_add]
    have h1 : y * 2 ^ 64 * z = y * z * 2 ^ 64 := by rw [Nat.mul_right_comm]
    have h2 : y * 2 ^ 64 * (t * 2 ^ 64) = y * t * 2 ^ 128 := by rw [Nat.mul_mul_mul_comm]
    have h3 : x * (t * 2 ^ 64) = x * t * 2 ^ 64 := by rw [Nat.mul_assoc]
    omega
  rw [e, Nat.mod_eq_of_lt hlt]

theorem idx0 (a b c d : Value) (w : World) : (Instr.index 310 (.agg #[a, b, c, d]) (.int .i64 0)).run Tryz.prog w = .ok (.agg #[a, b]) w := by kernel_rfl
theorem idx1 (a b c d : Value) (w : World) : (Instr.index 310 (.agg #[a, b, c, d]) (.int .i64 1)).run Tryz.prog w = .ok (.agg #[c, d]) w := by kernel_rfl
set_option maxHeartbeats 8000000 in
theorem MulW_limb {A B : Nat} (w : World) :
    Calls Tryz.prog 157 #[bitsV A, bitsV B] w fun e w' => e = .returned (wideV (mulParts A B)) ∧ Below w.heap.size w w' := by
  go_enter Tryz.func157, Tryz.ntmps157
  go_wp2
  refine wp_region_uni 12 (fun W' => Kept w.heap.size w W' ∧ w.heap.size < W'.heap.size ∧ w.heap.size + 1 < W'.heap.size ∧ w.heap.size + 1 + 1 < W'.heap.size ∧ W'.cell? ⟨w.heap.size, 0, none⟩ = some (.int .u64 (limb 1 A)) ∧ W'.cell? ⟨w.heap.size, 1, none⟩ = some (.int .u64 (limb 0 A)) ∧ W'.cell? ⟨w.heap.size + 1, 0, none⟩ = some (.int .u64 (limb 1 B)) ∧ W'.cell? ⟨w.heap.size + 1, 1, none⟩ = some (.int .u64 (limb 0 B)) ∧ W'.cell? ⟨w.heap.size + 1 + 1, 0, none⟩ = some (.int .u64 0) ∧ W'.cell? ⟨w.heap.size + 1 + 1, 1, none⟩ = some (.int .u64 0) ∧ W'.cell? ⟨w.heap.size + 1 + 1, 2, none⟩ = some (.int .u64 0) ∧ W'.cell? ⟨w.heap.size + 1 + 1, 3, none⟩ = some (.int .u64 0) ∧ (∀ o, W'.frozen? ⟨w.heap.size + 1 + 1, o, none⟩ = false)) (w.heap.size + 1 + 1 + 1) (fun _ => #[.int .u64 0, .int .u64 0, .int .u64 0, .int .u64 0]) (by kernel_rfl) (by kernel_rfl) (fun W W' h hb => ⟨h.1.step hb, Nat.lt_of_lt_of_le (h.2.1) hb.size, Nat.lt_of_lt_of_le (h.2.2.1) hb.size, Nat.lt_of_lt_of_le (h.2.2.2.1) hb.size, (hb.cell (h.2.1)).trans (h.2.2.2.2.1), (hb.cell (h.2.1)).trans (h.2.2.2.2.2.1), (hb.cell (h.2.2.1)).trans (h.2.2.2.2.2.2.1), (hb.cell (h.2.2.1)).trans (h.2.2.2.2.2.2.2.1), (hb.cell (h.2.2.2.1)).trans (h.2.2.2.2.2.2.2.2.1), (hb.cell (h.2.2.2.1)).trans (h.2.2.2.2.2.2.2.2.2.1), (hb.cell (h.2.2.2.1)).trans (h.2.2.2.2.2.2.2.2.2.2.1), (hb.cell (h.2.2.2.1)).trans (h.2.2.2.2.2.2.2.2.2.2.2.1), fun o => (hb.frozen (p := ⟨w.heap.size + 1 + 1, o, none⟩) (h.2.2.2.1)).trans ((h.2.2.2.2.2.2.2.2.2.2.2.2) o)⟩) (fun _ h => h.2.2.2.1) (⟨by repeat (first | with_reducible assumption | with_reducible exact Kept.refl _ | with_reducible refine Kept.alloc ?_ _ | with_reducible refine Kept.drew ?_ | with_reducible refine Kept.setCell ?_ (by simp; try omega) _), (by go_simp), (by go_simp), (by go_simp), (by go_simp), (by go_simp), (by go_simp), (by go_simp), (by go_simp), (by go_simp), (by go_simp), (by go_simp), (by intro o; go_simp)⟩) ?_
  simp only [List.take_succ_cons, List.take_zero, List.drop_succ_cons, List.drop_zero]
  refine hu_val ?_ (by rfl) (by rfl) ?_ ?_
  rotate_left
  · intro w hS; (try dsimp only at hS); go_simp; first | done | with_reducible rfl
  simp only [Act.put, List.setIfInBounds_toArray, List.set_cons_zero, List.set_cons_succ]
  refine hu_val ?_ (by rfl) (by rfl) ?_ ?_
  rotate_left
  · intro w hS; (try dsimp only at hS); go_simp; first | done | with_reducible rfl
  simp only [Act.put, List.setIfInBounds_toArray, List.set_cons_zero, List.set_cons_succ]
  refine hu_val ?_ (by rfl) (by rfl) ?_ ?_
  rotate_left
  · intro w hS; (try dsimp only at hS); go_simp; first | done | with_reducible rfl
  simp only [Act.put, List.setIfInBounds_toArray, List.set_cons_zero, List.set_cons_succ]
  refine hu_val ?_ (by rfl) (by rfl) ?_ ?_
  rotate_left
  · intro w hS; (try dsimp only at hS); go_simp; first | done | with_reducible rfl
  simp only [Act.put, List.setIfInBounds_toArray, List.set_cons_zero, List.set_cons_succ]
  refine hu_call ?_ ?_ ?_ (by rfl) (by rfl) ?_ ?_ ?_
  rotate_left 3
  · intro w hS; (try dsimp only at hS); go_simp; first | done | with_reducible rfl | (constructor <;> with_reducible rfl)
  · intro w hS; refine (Mul_at (limb_u64 _ _) (limb_u64 _ _) _).mono ?_; rintro e w' ⟨rfl, hb⟩; constructor; · with_reducible rfl
    · exact hb
  simp only [Act.put, List.setIfInBounds_toArray, List.set_cons_zero, List.set_cons_succ]
  refine hu_val ?_ (by rfl) (by rfl) ?_ ?_
  rotate_left
  · intro w hS; (try dsimp only at hS); go_simp; first | done | with_reducible rfl
  simp only [Act.put, List.setIfInBounds_toArray, List.set_cons_zero, List.set_cons_succ]
  refine hu_val ?_ (by rfl) (by rfl) ?_ ?_
  rotate_left
  · intro w hS; (try dsimp only at hS); go_simp; first | done | with_reducible rfl
  simp only [Act.put, List.setIfInBounds_toArray, List.set_cons_zero, List.set_cons_succ]
  refine hu_val ?_ (by rfl) (by rfl) ?_ ?_
  rotate_left
  · intro w hS; (try dsimp only at hS); go_simp; first | done | with_reducible rfl
  simp only [Act.put, List.setIfInBounds_toArray, List.set_cons_zero, List.set_cons_succ]
  refine hu_val ?_ (by rfl) (by rfl) ?_ ?_
  rotate_left
  · intro w hS; (try dsimp only at hS); go_simp; first | done | with_reducible rfl
  simp only [Act.put, List.setIfInBounds_toArray, List.set_cons_zero, List.set_cons_succ]
  refine hu_call ?_ ?_ ?_ (by rfl) (by rfl) ?_ ?_ ?_
  rotate_left 3
  · intro w hS; (try dsimp only at hS); go_simp; first | done | with_reducible rfl | (constructor <;> with_reducible rfl)
  · intro w hS; refine (Mul_at (limb_u64 _ _) (limb_u64 _ _) _).mono ?_; rintro e w' ⟨rfl, hb⟩; constructor; · with_reducible rfl
    · exact hb
  simp only [Act.put, List.setIfInBounds_toArray, List.set_cons_zero, List.set_cons_succ]
  refine hu_call ?_ ?_ ?_ (by rfl) (by rfl) ?_ ?_ ?_
  rotate_left 3
  · intro w hS; (try dsimp only at hS); go_simp; first | done | with_reducible rfl | (constructor <;> with_reducible rfl)
  · intro w hS; refine (Join_at (IsBits.of (mul_u64 (limb_u64 _ _) (limb_u64 _ _))) (IsBits.of (mul_u64 (limb_u64 _ _) (limb_u64 _ _))) _).mono ?_; rintro e w' ⟨rfl, hb⟩; constructor; · with_reducible rfl
    · exact hb
  simp only [Act.put, List.setIfInBounds_toArray, List.set_cons_zero, List.set_cons_succ]
  refine hu_alloc (by rfl) ⟨by rfl, ?_⟩ ?_
  · intro w; simp only [allocTy]; go_simp
  intro b hb
  simp only [Act.put, List.setIfInBounds_toArray, List.set_cons_zero, List.set_cons_succ]
  intro W1 hS hE
  change wpList _ _ _ _ _ _
  obtain ⟨hk, s0, s1, s2, s3, s4, s5, s6, s7, s8, s9, s10, s11⟩ := hS
  obtain ⟨_, Fb⟩ := hE
  have bc0 := Fb.cell 0 _ rfl
  have bc1 := Fb.cell 1 _ rfl
  have bc2 := Fb.cell 2 _ rfl
  have bc3 := Fb.cell 3 _ rfl
  have bf := Fb.free
  have bl := Fb.lt
  clear Fb
  generalize hJ : joinN (mulI (limb 1 A) (limb 1 B)) (mulI (limb 0 A) (limb 0 B)) = J
  have wJ : W256 J := by rw [← hJ]; exact join_w (mul_u64 (limb_u64 _ _) (limb_u64 _ _)) (mul_u64 (limb_u64 _ _) (limb_u64 _ _))
  have HJ := Lib.hid hJ
  clear hJ
  have hb0 : w.heap.size ≤ b := by omega
  have hb1 : w.heap.size < b := by omega
  have hb2 : w.heap.size + 1 < b := by omega
  have hb3 : w.heap.size + 1 + 1 < b := by omega
  go_wp2
  obtain ⟨X, eX, x0, x1, x2, x3, x4, x5, x6, x7, x8, x9, x10, x11, x12, x13, x14, x15, x16, x17, x18⟩ : ∃ X, X = ((((W1.setCell ⟨b, 0, none⟩ (.int .u64 (limb 0 J))).setCell ⟨b, 1, none⟩ (.int .u64 (limb 1 J))).setCell ⟨b, 2, none⟩ (.int .u64 (limb 2 J))).setCell ⟨b, 3, none⟩ (.int .u64 (limb 3 J))) ∧ Kept w.heap.size w X ∧ w.heap.size < X.heap.size ∧ w.heap.size + 1 < X.heap.size ∧ w.heap.size + 1 + 1 < X.heap.size ∧ b < X.heap.size ∧ X.cell? ⟨b, 0, none⟩ = some (.int .u64 (limb 0 J)) ∧ X.cell? ⟨b, 1, none⟩ = some (.int .u64 (limb 1 J)) ∧ X.cell? ⟨b, 2, none⟩ = some (.int .u64 (limb 2 J)) ∧ X.cell? ⟨b, 3, none⟩ = some (.int .u64 (limb 3 J)) ∧ (∀ o, X.frozen? ⟨b, o, none⟩ = false) ∧ X.cell? ⟨w.heap.size, 0, none⟩ = some (.int .u64 (limb 1 A)) ∧ X.cell? ⟨w.heap.size, 1, none⟩ = some (.int .u64 (limb 0 A)) ∧ X.cell? ⟨w.heap.size + 1, 0, none⟩ = some (.int .u64 (limb 1 B)) ∧ X.cell? ⟨w.heap.size + 1, 1, none⟩ = some (.int .u64 (limb 0 B)) ∧ X.cell? ⟨w.heap.size + 1 + 1, 0, none⟩ = some (.int .u64 0) ∧ X.cell? ⟨w.heap.size + 1 + 1, 1, none⟩ = some (.int .u64 0) ∧ X.cell? ⟨w.heap.size + 1 + 1, 2, none⟩ = some (.int .u64 0) ∧ X.cell? ⟨w.heap.size + 1 + 1, 3, none⟩ = some (.int .u64 0) ∧ (∀ o, X.frozen? ⟨w.heap.size + 1 + 1, o, none⟩ = false) := ⟨_, rfl, set4_kept hk (by omega), (by rw [show (((((W1.setCell ⟨b, 0, none⟩ (.int .u64 (limb 0 J))).setCell ⟨b, 1, none⟩ (.int .u64 (limb 1 J))).setCell ⟨b, 2, none⟩ (.int .u64 (limb 2 J))).setCell ⟨b, 3, none⟩ (.int .u64 (limb 3 J)))).heap.size = W1.heap.size from set4_size]; omega), (by rw [show (((((W1.setCell ⟨b, 0, none⟩ (.int .u64 (limb 0 J))).setCell ⟨b, 1, none⟩ (.int .u64 (limb 1 J))).setCell ⟨b, 2, none⟩ (.int .u64 (limb 2 J))).setCell ⟨b, 3, none⟩ (.int .u64 (limb 3 J)))).heap.size = W1.heap.size from set4_size]; omega), (by rw [show (((((W1.setCell ⟨b, 0, none⟩ (.int .u64 (limb 0 J))).setCell ⟨b, 1, none⟩ (.int .u64 (limb 1 J))).setCell ⟨b, 2, none⟩ (.int .u64 (limb 2 J))).setCell ⟨b, 3, none⟩ (.int .u64 (limb 3 J)))).heap.size = W1.heap.size from set4_size]; omega), (by rw [show (((((W1.setCell ⟨b, 0, none⟩ (.int .u64 (limb 0 J))).setCell ⟨b, 1, none⟩ (.int .u64 (limb 1 J))).setCell ⟨b, 2, none⟩ (.int .u64 (limb 2 J))).setCell ⟨b, 3, none⟩ (.int .u64 (limb 3 J)))).heap.size = W1.heap.size from set4_size]; omega), (set4_cells bc0 bc1 bc2 bc3).1, (set4_cells bc0 bc1 bc2 bc3).2.1, (set4_cells bc0 bc1 bc2 bc3).2.2.1, (set4_cells bc0 bc1 bc2 bc3).2.2.2, (fun o => (set4_frozen _).trans (bf o)), (set4_other (by omega)).trans s3, (set4_other (by omega)).trans s4, (set4_other (by omega)).trans s5, (set4_other (by omega)).trans s6, (set4_other (by omega)).trans s7, (set4_other (by omega)).trans s8, (set4_other (by omega)).trans s9, (set4_other (by omega)).trans s10, (fun o => (set4_frozen _).trans (s11 o))⟩
  rw [← eX]
  clear eX
  clear hk s0 s1 s2 s3 s4 s5 s6 s7 s8 s9 s10 s11 bc0 bc1 bc2 bc3 bf bl
  refine wp_region_uni 12 (fun W' => Kept w.heap.size w W' ∧ w.heap.size < W'.heap.size ∧ w.heap.size + 1 < W'.heap.size ∧ w.heap.size + 1 + 1 < W'.heap.size ∧ b < W'.heap.size ∧ W'.cell? ⟨w.heap.size, 0, none⟩ = some (.int .u64 (limb 1 A)) ∧ W'.cell? ⟨w.heap.size, 1, none⟩ = some (.int .u64 (limb 0 A)) ∧ W'.cell? ⟨w.heap.size + 1, 0, none⟩ = some (.int .u64 (limb 1 B)) ∧ W'.cell? ⟨w.heap.size + 1, 1, none⟩ = some (.int .u64 (limb 0 B)) ∧ W'.cell? ⟨w.heap.size + 1 + 1, 0, none⟩ = some (.int .u64 0) ∧ W'.cell? ⟨w.heap.size + 1 + 1, 1, none⟩ = some (.int .u64 0) ∧ W'.cell? ⟨w.heap.size + 1 + 1, 2, none⟩ = some (.int .u64 0) ∧ W'.cell? ⟨w.heap.size + 1 + 1, 3, none⟩ = some (.int .u64 0) ∧ W'.cell? ⟨b, 0, none⟩ = some (.int .u64 (limb 0 J)) ∧ W'.cell? ⟨b, 1, none⟩ = some (.int .u64 (limb 1 J)) ∧ W'.cell? ⟨b, 2, none⟩ = some (.int .u64 (limb 2 J)) ∧ W'.cell? ⟨b, 3, none⟩ = some (.int .u64 (limb 3 J)) ∧ (∀ o, W'.frozen? ⟨w.heap.size + 1 + 1, o, none⟩ = false) ∧ (∀ o, W'.frozen? ⟨b, o, none⟩ = false)) (b + 1) (fun _ => #[]) (by kernel_rfl) (by kernel_rfl) (fun W W' h hb => ⟨h.1.step hb, Nat.lt_of_lt_of_le (h.2.1) hb.size, Nat.lt_of_lt_of_le (h.2.2.1) hb.size, Nat.lt_of_lt_of_le (h.2.2.2.1) hb.size, Nat.lt_of_lt_of_le (h.2.2.2.2.1) hb.size, (hb.cell (h.2.1)).trans (h.2.2.2.2.2.1), (hb.cell (h.2.1)).trans (h.2.2.2.2.2.2.1), (hb.cell (h.2.2.1)).trans (h.2.2.2.2.2.2.2.1), (hb.cell (h.2.2.1)).trans (h.2.2.2.2.2.2.2.2.1), (hb.cell (h.2.2.2.1)).trans (h.2.2.2.2.2.2.2.2.2.1), (hb.cell (h.2.2.2.1)).trans (h.2.2.2.2.2.2.2.2.2.2.1), (hb.cell (h.2.2.2.1)).trans (h.2.2.2.2.2.2.2.2.2.2.2.1), (hb.cell (h.2.2.2.1)).trans (h.2.2.2.2.2.2.2.2.2.2.2.2.1), (hb.cell (h.2.2.2.2.1)).trans (h.2.2.2.2.2.2.2.2.2.2.2.2.2.1), (hb.cell (h.2.2.2.2.1)).trans (h.2.2.2.2.2.2.2.2.2.2.2.2.2.2.1), (hb.cell (h.2.2.2.2.1)).trans (h.2.2.2.2.2.2.2.2.2.2.2.2.2.2.2.1), (hb.cell (h.2.2.2.2.1)).trans (h.2.2.2.2.2.2.2.2.2.2.2.2.2.2.2.2.1), fun o => (hb.frozen (p := ⟨w.heap.size + 1 + 1, o, none⟩) (h.2.2.2.1)).trans ((h.2.2.2.2.2.2.2.2.2.2.2.2.2.2.2.2.2.1) o), fun o => (hb.frozen (p := ⟨b, o, none⟩) (h.2.2.2.2.1)).trans ((h.2.2.2.2.2.2.2.2.2.2.2.2.2.2.2.2.2.2) o)⟩) (fun _ h => h.2.2.2.2.1) (⟨x0.drew, x1, x2, x3, x4, x10, x11, x12, x13, x14, x15, x16, x17, x5, x6, x7, x8, x18, x9⟩) ?_
  simp only [List.take_succ_cons, List.take_zero, List.drop_succ_cons, List.drop_zero]
  refine hu_val ?_ (by rfl) (by rfl) ?_ ?_
  rotate_left
  · intro w hS; (try dsimp only at hS); go_simp; first | done | with_reducible rfl
  simp only [Act.put, List.setIfInBounds_toArray, List.set_cons_zero, List.set_cons_succ]
  refine hu_val ?_ (by rfl) (by rfl) ?_ ?_
  rotate_left
  · intro w hS; (try dsimp only at hS); go_simp; first | done | with_reducible rfl
  simp only [Act.put, List.setIfInBounds_toArray, List.set_cons_zero, List.set_cons_succ]
  refine hu_val ?_ (by rfl) (by rfl) ?_ ?_
  rotate_left
  · intro w hS; (try dsimp only at hS); go_simp; first | done | with_reducible rfl
  simp only [Act.put, List.setIfInBounds_toArray, List.set_cons_zero, List.set_cons_succ]
  refine hu_val ?_ (by rfl) (by rfl) ?_ ?_
  rotate_left
  · intro w hS; (try dsimp only at hS); go_simp; first | done | with_reducible rfl
  simp only [Act.put, List.setIfInBounds_toArray, List.set_cons_zero, List.set_cons_succ]
  refine hu_call ?_ ?_ ?_ (by rfl) (by rfl) ?_ ?_ ?_
  rotate_left 3
  · intro w hS; (try dsimp only at hS); go_simp; first | done | with_reducible rfl | (constructor <;> with_reducible rfl)
  · intro w hS; refine (Mul_at (limb_u64 _ _) (limb_u64 _ _) _).mono ?_; rintro e w' ⟨rfl, hb⟩; constructor; · with_reducible rfl
    · exact hb
  simp only [Act.put, List.setIfInBounds_toArray, List.set_cons_zero, List.set_cons_succ]
  refine hu_val ?_ (by rfl) (by rfl) ?_ ?_
  rotate_left
  · intro w hS; (try dsimp only at hS); go_simp; first | done | with_reducible rfl
  simp only [Act.put, List.setIfInBounds_toArray, List.set_cons_zero, List.set_cons_succ]
  refine hu_val ?_ (by rfl) (by rfl) ?_ ?_
  rotate_left
  · intro w hS; (try dsimp only at hS); go_simp; first | done | with_reducible rfl
  simp only [Act.put, List.setIfInBounds_toArray, List.set_cons_zero, List.set_cons_succ]
  refine hu_val ?_ (by rfl) (by rfl) ?_ ?_
  rotate_left
  · intro w hS; (try dsimp only at hS); go_simp; first | done | with_reducible rfl
  simp only [Act.put, List.setIfInBounds_toArray, List.set_cons_zero, List.set_cons_succ]
  refine hu_val ?_ (by rfl) (by rfl) ?_ ?_
  rotate_left
  · intro w hS; (try dsimp only at hS); go_simp; first | done | with_reducible rfl
  simp only [Act.put, List.setIfInBounds_toArray, List.set_cons_zero, List.set_cons_succ]
  refine hu_call ?_ ?_ ?_ (by rfl) (by rfl) ?_ ?_ ?_
  rotate_left 3
  · intro w hS; (try dsimp only at hS); go_simp; first | done | with_reducible rfl | (constructor <;> with_reducible rfl)
  · intro w hS; refine (Mul_at (limb_u64 _ _) (limb_u64 _ _) _).mono ?_; rintro e w' ⟨rfl, hb⟩; constructor; · with_reducible rfl
    · exact hb
  simp only [Act.put, List.setIfInBounds_toArray, List.set_cons_zero, List.set_cons_succ]
  refine hu_val ?_ (by rfl) (by rfl) ?_ ?_
  rotate_left
  · intro w hS; (try dsimp only at hS); go_simp; first | done | with_reducible rfl
  simp only [Act.put, List.setIfInBounds_toArray, List.set_cons_zero, List.set_cons_succ]
  refine hu_val ?_ (by rfl) (by rfl) ?_ ?_
  rotate_left
  · intro w hS; (try dsimp only at hS); go_simp; first | done | with_reducible rfl
  simp only [Act.put, List.setIfInBounds_toArray, List.set_cons_zero, List.set_cons_succ]
  intro W2 hS hE
  change wpList _ _ _ _ _ _
  obtain ⟨hk, s0, s1, s2, s3, s4, s5, s6, s7, s8, s9, s10, s11, s12, s13, s14, s15, s16, s17⟩ := hS
  clear hE
  have Bb : Box W2 b #[.int .u64 (limb 0 J), .int .u64 (limb 1 J), .int .u64 (limb 2 J), .int .u64 (limb 3 J)] := box_mk4 s3 s12 s13 s14 s15 s17
  have Br : Box W2 (w.heap.size + 1 + 1) #[.int .u64 0, .int .u64 0, .int .u64 0, .int .u64 0] := box_mk4 s2 s8 s9 s10 s11 s16
  clear s0 s1 s2 s3 s4 s5 s6 s7 s8 s9 s10 s11 s12 s13 s14 s15 s16 s17 x0 x1 x2 x3 x4 x5 x6 x7 x8 x9 x10 x11 x12 x13 x14 x15 x16 x17 x18
  have Bbc := Bb.cell
  have Bbl := Bb.lt
  have Bbf := Bb.free
  have Bbl1 : b < W2.heap.size + 1 := by omega
  have Bbl2 : b < W2.heap.size + 1 + 1 := by omega
  have Bbl3 : b < W2.heap.size + 1 + 1 + 1 := by omega
  have Bb0 := Bbc 0 _ rfl
  have Bb1 := Bbc 1 _ rfl
  have Bb2 := Bbc 2 _ rfl
  have Bb3 := Bbc 3 _ rfl
  clear Bbc
  have Brc := Br.cell
  have Brl := Br.lt
  have Brf := Br.free
  have Brl1 : w.heap.size + 1 + 1 < W2.heap.size + 1 := by omega
  have Brl2 : w.heap.size + 1 + 1 < W2.heap.size + 1 + 1 := by omega
  have Brl3 : w.heap.size + 1 + 1 < W2.heap.size + 1 + 1 + 1 := by omega
  have Br0 := Brc 0 _ rfl
  have Br1 := Brc 1 _ rfl
  have Br2 := Brc 2 _ rfl
  have Br3 := Brc 3 _ rfl
  clear Brc
  have i0 := idx0
  have i1 := idx1
  go_wp2
  refine wp_loop_rounds 3 ?_
  rw [rounds_succ]
  go_wp2_with fail
  (with_reducible refine (AddW_at (IsWide.of wJ) (wide_mid (mul_u64 (limb_u64 _ _) (limb_u64 _ _))) _).mono ?_)
  rintro e w1 ⟨rfl, hb⟩
  have Bb' : Box w1 (b) _ := Box.call hb (by repeat (first | with_reducible assumption | with_reducible apply Box.set10 | with_reducible apply Box.set20 | with_reducible apply Box.set21 | with_reducible apply Box.set40 | with_reducible apply Box.set41 | with_reducible apply Box.set42 | with_reducible apply Box.set43 | with_reducible apply Box.set50 | with_reducible apply Box.set51 | with_reducible apply Box.set52 | with_reducible apply Box.set53 | with_reducible apply Box.set54 | with_reducible apply Box.drew | (with_reducible apply Box.newAt; (try simp only [World.size_alloc, World.size_setCell, World.size_drew]); done) | with_reducible apply Box.alloc | (with_reducible apply Box.other; case hne => ((try simp only [World.size_alloc, World.size_setCell, World.size_drew]); omega))))
  have Br' : Box w1 (w.heap.size + 1 + 1) _ := Box.call hb (by repeat (first | with_reducible assumption | with_reducible apply Box.set10 | with_reducible apply Box.set20 | with_reducible apply Box.set21 | with_reducible apply Box.set40 | with_reducible apply Box.set41 | with_reducible apply Box.set42 | with_reducible apply Box.set43 | with_reducible apply Box.set50 | with_reducible apply Box.set51 | with_reducible apply Box.set52 | with_reducible apply Box.set53 | with_reducible apply Box.set54 | with_reducible apply Box.drew | (with_reducible apply Box.newAt; (try simp only [World.size_alloc, World.size_setCell, World.size_drew]); done) | with_reducible apply Box.alloc | (with_reducible apply Box.other; case hne => ((try simp only [World.size_alloc, World.size_setCell, World.size_drew]); omega))))
  have hk' : Kept w.heap.size w w1 := Kept.step (by repeat (first | with_reducible exact hk | with_reducible exact Kept.refl _ | with_reducible refine Kept.alloc ?_ _ | with_reducible refine Kept.drew ?_ | with_reducible refine Kept.setCell ?_ (by simp only [World.size_alloc, World.size_setCell, World.size_drew]; omega) _)) hb
  clear hk
  clear Bbl1 Bbl2 Bbl3 Bbf Bb0 Bb1 Bb2 Bb3
  clear Brl1 Brl2 Brl3 Brf Br0 Br1 Br2 Br3
  clear Bb
  clear Br
  have Bb := Bb'
  clear Bb'
  have Br := Br'
  clear Br'
  have hk := hk'
  clear hk' hb
  have hz_w1 := hk.size
  have Bbc := Bb.cell
  have Bbl := Bb.lt
  have Bbf := Bb.free
  have Bbl1 : b < w1.heap.size + 1 := by omega
  have Bbl2 : b < w1.heap.size + 1 + 1 := by omega
  have Bbl3 : b < w1.heap.size + 1 + 1 + 1 := by omega
  have Bb0 := Bbc 0 _ rfl
  have Bb1 := Bbc 1 _ rfl
  have Bb2 := Bbc 2 _ rfl
  have Bb3 := Bbc 3 _ rfl
  clear Bbc
  have Brc := Br.cell
  have Brl := Br.lt
  have Brf := Br.free
  have Brl1 : w.heap.size + 1 + 1 < w1.heap.size + 1 := by omega
  have Brl2 : w.heap.size + 1 + 1 < w1.heap.size + 1 + 1 := by omega
  have Brl3 : w.heap.size + 1 + 1 < w1.heap.size + 1 + 1 + 1 := by omega
  have Br0 := Brc 0 _ rfl
  have Br1 := Brc 1 _ rfl
  have Br2 := Brc 2 _ rfl
  have Br3 := Brc 3 _ rfl
  clear Brc
  go_wp2
  rw [rounds_succ]
  go_wp2_with fail
  (with_reducible refine (AddW_at (IsWide.of (add256_w _ _)) (wide_mid (mul_u64 (limb_u64 _ _) (limb_u64 _ _))) _).mono ?_)
  rintro e w2 ⟨rfl, hb⟩
  have Bb' : Box w2 (b) _ := Box.call hb (by repeat (first | with_reducible assumption | with_reducible apply Box.set10 | with_reducible apply Box.set20 | with_reducible apply Box.set21 | with_reducible apply Box.set40 | with_reducible apply Box.set41 | with_reducible apply Box.set42 | with_reducible apply Box.set43 | with_reducible apply Box.set50 | with_reducible apply Box.set51 | with_reducible apply Box.set52 | with_reducible apply Box.set53 | with_reducible apply Box.set54 | with_reducible apply Box.drew | (with_reducible apply Box.newAt; (try simp only [World.size_alloc, World.size_setCell, World.size_drew]); done) | with_reducible apply Box.alloc | (with_reducible apply Box.other; case hne => ((try simp only [World.size_alloc, World.size_setCell, World.size_drew]); omega))))
  have Br' : Box w2 (w.heap.size + 1 + 1) _ := Box.call hb (by repeat (first | with_reducible assumption | with_reducible apply Box.set10 | with_reducible apply Box.set20 | with_reducible apply Box.set21 | with_reducible apply Box.set40 | with_reducible apply Box.set41 | with_reducible apply Box.set42 | with_reducible apply Box.set43 | with_reducible apply Box.set50 | with_reducible apply Box.set51 | with_reducible apply Box.set52 | with_reducible apply Box.set53 | with_reducible apply Box.set54 | with_reducible apply Box.drew | (with_reducible apply Box.newAt; (try simp only [World.size_alloc, World.size_setCell, World.size_drew]); done) | with_reducible apply Box.alloc | (with_reducible apply Box.other; case hne => ((try simp only [World.size_alloc, World.size_setCell, World.size_drew]); omega))))
  have hk' : Kept w.heap.size w w2 := Kept.step (by repeat (first | with_reducible exact hk | with_reducible exact Kept.refl _ | with_reducible refine Kept.alloc ?_ _ | with_reducible refine Kept.drew ?_ | with_reducible refine Kept.setCell ?_ (by simp only [World.size_alloc, World.size_setCell, World.size_drew]; omega) _)) hb
  clear hk
  clear Bbl1 Bbl2 Bbl3 Bbf Bb0 Bb1 Bb2 Bb3
  clear Brl1 Brl2 Brl3 Brf Br0 Br1 Br2 Br3
  clear Bb
  clear Br
  have Bb := Bb'
  clear Bb'
  have Br := Br'
  clear Br'
  have hk := hk'
  clear hk' hb
  have hz_w2 := hk.size
  have Bbc := Bb.cell
  have Bbl := Bb.lt
  have Bbf := Bb.free
  have Bbl1 : b < w2.heap.size + 1 := by omega
  have Bbl2 : b < w2.heap.size + 1 + 1 := by omega
  have Bbl3 : b < w2.heap.size + 1 + 1 + 1 := by omega
  have Bb0 := Bbc 0 _ rfl
  have Bb1 := Bbc 1 _ rfl
  have Bb2 := Bbc 2 _ rfl
  have Bb3 := Bbc 3 _ rfl
  clear Bbc
  have Brc := Br.cell
  have Brl := Br.lt
  have Brf := Br.free
  have Brl1 : w.heap.size + 1 + 1 < w2.heap.size + 1 := by omega
  have Brl2 : w.heap.size + 1 + 1 < w2.heap.size + 1 + 1 := by omega
  have Brl3 : w.heap.size + 1 + 1 < w2.heap.size + 1 + 1 + 1 := by omega
  have Br0 := Brc 0 _ rfl
  have Br1 := Brc 1 _ rfl
  have Br2 := Brc 2 _ rfl
  have Br3 := Brc 3 _ rfl
  clear Brc
  go_wp2
  rw [rounds_succ]
  go_wp2
  refine bodyPost_ret (v := wideV (add256 (add256 J (mulI (limb 1 A) (limb 0 B) * 2 ^ 64)) (mulI (limb 0 A) (limb 1 B) * 2 ^ 64))) (by simp [results, Tryz.results157, go_sem, Br0, Br1, Br2, Br3]) rfl ⟨by rw [mulParts, HJ.out], ?_⟩
  refine Kept.below ?_; repeat (first | with_reducible exact hk | with_reducible exact Kept.refl _ | with_reducible refine Kept.alloc ?_ _ | with_reducible refine Kept.drew ?_ | with_reducible refine Kept.setCell ?_ (by simp only [World.size_alloc, World.size_setCell, World.size_drew]; omega) _)
theorem MulW_at {a1 a0 b1 b0 : Int} {A B : Nat} (hA : IsBits a1 a0 A) (hB : IsBits b1 b0 B) (w : World) :
    Calls Tryz.prog 157 #[.agg #[.int .u64 a1, .int .u64 a0], .agg #[.int .u64 b1, .int .u64 b0]] w fun e w' => e = .returned (wideV (mulN A B)) ∧ Below w.heap.size w w' := by
  rw [hA.hi, hA.lo, hB.hi, hB.lo, mulN_def, ← mul_parts hA.w hB.w]
  exact MulW_limb w
end Go.Proofs.YtpfoifflfgiaoaaGreatDoor
namespace Go.Proofs.YtpfoifflfgiaoaaGreatDoor
open Go.RowKit

end Go.Proofs.YtpfoifflfgiaoaaGreatDoor
namespace Go.Proofs.YtpfoifflfgiaoaaGreatDoor
open Go.RowKit

theorem Div_at {a0 a1 a2 a3 d1 d0 : Int} {A D : Nat} (hA : IsWide a0 a1 a2 a3 A) (hD : IsBits d1 d0 D) (h0 : 0 < D) (w : World) :
    Calls Tryz.prog 94 #[.agg #[.int .u64 a0, .int .u64 a1, .int .u64 a2, .int .u64 a3], .agg #[.int .u64 d1, .int .u64 d0]] w fun e w' => e = .returned (.tuple #[wideV (divN A D), bitsV (modN A D), .bool true]) ∧ Below w.heap.size w w' := by
  rw [hA.e0, hA.e1, hA.e2, hA.e3, hD.hi, hD.lo]; exact Div_any hA.w hD.w h0 w
theorem Div_zero_at {a0 a1 a2 a3 d1 d0 : Int} {A D : Nat} (hA : IsWide a0 a1 a2 a3 A) (hD : IsBits d1 d0 D) (h0 : D = 0) (w : World) :
    Calls Tryz.prog 94 #[.agg #[.int .u64 a0, .int .u64 a1, .int .u64 a2, .int .u64 a3], .agg #[.int .u64 d1, .int .u64 d0]] w fun e w' => e = .returned (.tuple #[.agg #[.int .u64 0, .int .u64 0, .int .u64 0, .int .u64 0], .agg #[.int .u64 0, .int .u64 0], .bool false]) ∧ Below w.heap.size w w' := by
  rw [hA.e0, hA.e1, hA.e2, hA.e3, hD.hi, hD.lo]; exact Div_zero hA.w hD.w h0 w
theorem Mod_at {r1 r0 d1 d0 : Int} {R D : Nat} (hR : IsBits r1 r0 R) (hD : IsBits d1 d0 D) (h : R < D) (N : Nat) {z : Int} (hz : z = (N : Int)) (hN : N ≤ 40000) (w : World) :
    Calls Tryz.prog 180 #[.agg #[.int .u64 r1, .int .u64 r0], .int .i64 z, .agg #[.int .u64 d1, .int .u64 d0]] w fun e w' => e = .returned (.tuple #[bitsV (farN R D N), .bool (oddF R D N), .bool true]) ∧ Below w.heap.size w w' := by
  rw [hR.hi, hR.lo, hD.hi, hD.lo, hz]; exact Mod_any hD.w h N hN w
theorem Mod_no1_at {r1 r0 d1 d0 : Int} {R D : Nat} (hR : IsBits r1 r0 R) (hD : IsBits d1 d0 D) (z : Int) (h : D ≤ R) (w : World) :
    Calls Tryz.prog 180 #[.agg #[.int .u64 r1, .int .u64 r0], .int .i64 z, .agg #[.int .u64 d1, .int .u64 d0]] w fun e w' => e = .returned (.tuple #[.agg #[.int .u64 0, .int .u64 0], .bool false, .bool false]) ∧ Below w.heap.size w w' := by
  rw [hR.hi, hR.lo, hD.hi, hD.lo]; exact Mod_no1 hR.w hD.w z h w
theorem Mod_no2_at {r1 r0 d1 d0 : Int} {R D : Nat} (hR : IsBits r1 r0 R) (hD : IsBits d1 d0 D) (z : Int) (h : R < D) (h2 : z < 0) (w : World) :
    Calls Tryz.prog 180 #[.agg #[.int .u64 r1, .int .u64 r0], .int .i64 z, .agg #[.int .u64 d1, .int .u64 d0]] w fun e w' => e = .returned (.tuple #[.agg #[.int .u64 0, .int .u64 0], .bool false, .bool false]) ∧ Below w.heap.size w w' := by
  rw [hR.hi, hR.lo, hD.hi, hD.lo]; exact Mod_no2 hR.w hD.w z h h2 w
theorem Mod_no3_at {r1 r0 d1 d0 : Int} {R D : Nat} (hR : IsBits r1 r0 R) (hD : IsBits d1 d0 D) (z : Int) (h : R < D) (h2 : ¬ z < 0) (h3 : 40000 < z) (w : World) :
    Calls Tryz.prog 180 #[.agg #[.int .u64 r1, .int .u64 r0], .int .i64 z, .agg #[.int .u64 d1, .int .u64 d0]] w fun e w' => e = .returned (.tuple #[.agg #[.int .u64 0, .int .u64 0], .bool false, .bool false]) ∧ Below w.heap.size w w' := by
  rw [hR.hi, hR.lo, hD.hi, hD.lo]; exact Mod_no3 hR.w hD.w z h h2 h3 w
end Go.Proofs.YtpfoifflfgiaoaaGreatDoor
