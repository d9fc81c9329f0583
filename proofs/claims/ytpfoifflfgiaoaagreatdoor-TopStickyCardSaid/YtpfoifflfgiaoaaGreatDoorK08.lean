/- root.Root: its contract. -/
import Derived.Test.YtpfoifflfgiaoaaGreatDoorK07
import Derived.Test.YtpfoifflfgiaoaaGreatDoorK03
import Derived.Test.YtpfoifflfgiaoaaGreatDoorK04
set_option linter.unusedVariables false
set_option linter.unusedSimpArgs false
namespace Go.Proofs.YtpfoifflfgiaoaaGreatDoor
open Go.RowKit Go.Shelf
attribute [local go_sem] Oper.semAt_some

/-- what holds ahead of each round -/
structure RootS (v : World) (A r : Nat) (W : World) : Prop where
  n : Box W (v.heap.size) #[.int .u64 (limb 0 A), .int .u64 (limb 1 A), .int .u64 (limb 2 A), .int .u64 (limb 3 A)]
  o : Box W (v.heap.size + 1) #[.int .u64 0, .int .u64 0]
  r : Box W (v.heap.size + 1 + 1) #[.int .u64 (limb 1 r), .int .u64 (limb 0 r)]
  old : Below v.heap.size v W
theorem RootS.grown {v : World} {A r : Nat} {X Y : World} {row : Option Nat} (h : RootS v A r X) (hg : X.grownBy Y row) (hr : ∀ r, row = some r → v.heap.size ≤ r ∧ ∃ o : Obj, X.heap[r]? = some o ∧ o.isCells = false) : RootS v A r Y :=
  have hr' := fun r e => (hr r e).2
  ⟨h.n.grown hg hr' ⟨_, rfl⟩, h.o.grown hg hr' ⟨_, rfl⟩, h.r.grown hg hr' ⟨_, rfl⟩, h.old.grown hg h.old.size (fun k e => (hr k e).1)⟩
theorem RootS.call {v : World} {A r : Nat} {X Y : World} (h : RootS v A r X) (hb : Below X.heap.size X Y) : RootS v A r Y :=
  ⟨h.n.call hb, h.o.call hb, h.r.call hb, h.old.trans (hb.mono h.old.size)⟩
theorem RootS.alloc {v : World} {A r : Nat} {X : World} (h : RootS v A r X) (o : Obj) : RootS v A r (X.alloc o) := ⟨h.n.alloc o, h.o.alloc o, h.r.alloc o, h.old.alloc h.old.size o⟩
theorem RootS.setR {v : World} {A r r' : Nat} {X : World} (h : RootS v A r X) : RootS v A r' ((X.setCell ⟨v.heap.size + 1 + 1, 0, none⟩ (.int .u64 (limb 1 r'))).setCell ⟨v.heap.size + 1 + 1, 1, none⟩ (.int .u64 (limb 0 r'))) :=
  ⟨(h.n.other (by omega)).other (by omega), (h.o.other (by omega)).other (by omega), h.r.set20.set21, (h.old.setCell (by simp only []; omega) _).setCell (by simp only []; omega) _⟩

set_option maxRecDepth 100000 in
set_option maxHeartbeats 8000000 in
theorem Root_in (n : Nat) (hn : 3 ≤ n) {A : Nat} (hA : W256 A) (v : World) :
    CallsIn Fence.wide n Tryz.prog 100 #[wideV A] v fun e w' => e = .returned (.tuple #[bitsV (rootN A), .bool (exactB A)]) ∧ Below v.heap.size v w' := by
  have h1 : 1 ≤ n := by omega
  refine callsIn_of_wp_marks Tryz.func100 rfl trivial ?_ rfl
  simp only [Tryz.ntmps100, List.size_toArray, List.length_cons, List.length_nil, Nat.reduceAdd, Nat.reduceSub, Array.replicate_succ, Array.replicate_zero, List.push_toArray, List.append_toArray, List.nil_append, List.cons_append]
  gi_wp2_with fail
  refine ⟨trivial, ?_⟩
  refine (bits_in _ _).mono ?_
  rintro e w1 ⟨rfl, rfl⟩
  gi_wp2
  have S0 : ∀ a b c t1 t2 t3, a = #[.int .u64 (limb 0 A), .int .u64 (limb 1 A), .int .u64 (limb 2 A), .int .u64 (limb 3 A)] → b = #[.int .u64 0, .int .u64 0] → c = #[.int .u64 0, .int .u64 0] → RootS v A (orS A []) (((v.alloc (.cells a t1)).alloc (.cells b t2)).alloc (.cells c t3)) := fun a b c t1 t2 t3 ha hb hc => by
    subst ha; subst hb; subst hc
    rw [orS_nil]
    exact ⟨((Box.newAt rfl).alloc _).alloc _, (Box.newAt (by simp)).alloc _, (by have := @Box.newAt ((v.alloc (.cells #[.int .u64 (limb 0 A), .int .u64 (limb 1 A), .int .u64 (limb 2 A), .int .u64 (limb 3 A)] t1)).alloc (.cells #[.int .u64 0, .int .u64 0] t2)) (v.heap.size + 1 + 1) #[.int .u64 0, .int .u64 0] t3 (by simp); simpa [limb] using this), (((Below.refl _ v).alloc (Nat.le_refl _) _).alloc (by simp) _).alloc (by simp; omega) _⟩
  have S1 := S0 _ _ _ 156 29 29 rfl rfl rfl
  clear S0
  have hz2 : (((v.alloc (.cells #[.int .u64 (limb 0 A), .int .u64 (limb 1 A), .int .u64 (limb 2 A), .int .u64 (limb 3 A)] 156)).alloc (.cells #[.int .u64 0, .int .u64 0] 29)).alloc (.cells #[.int .u64 0, .int .u64 0] 29)).heap.size = v.heap.size + 1 + 1 + 1 := by simp
  generalize (((v.alloc (.cells #[.int .u64 (limb 0 A), .int .u64 (limb 1 A), .int .u64 (limb 2 A), .int .u64 (limb 3 A)] 156)).alloc (.cells #[.int .u64 0, .int .u64 0] 29)).alloc (.cells #[.int .u64 0, .int .u64 0] 29)) = w2 at *
  refine wpIn_rangeFunc_ownH rfl h1 (gf := 237) (lb := #[]) rfl trivial (enters_of Tryz.func237 (by kernel_rfl) rfl)
    (bits_stops (n - 1) (by omega) v.heap.size w2) belowK_t (belowK_b (by omega)) (Below.refl _ _) (fun _ => rfl)
    (fun pre W => RootS v A (orS A pre) W)
    (fun _ _ _ => False)
    (fun s X Y row hs' hg hr => hs'.grown hg (fun r e => ⟨Nat.le_trans (by omega) (hr r e).1, (hr r e).2⟩))
    (fun _ _ _ _ _ hs' _ _ => hs')
    S1
    (fun x a' W => ∃ b5, w2.heap.size ≤ b5 ∧ Box W b5 #[.int .u64 (limb 1 (2 ^ (127 - x.val))), .int .u64 (limb 0 (2 ^ (127 - x.val)))] ∧ a' = { tmps := #[wideV A, .pointer (some ⟨v.heap.size, 0, none⟩), .pointer (some ⟨v.heap.size + 1, 0, none⟩), .bool false, .pointer (some ⟨v.heap.size + 1 + 1, 0, none⟩), .pointer (some ⟨b5, 0, none⟩), undef, .func (.func 237) #[] #[], bitsV (2 ^ (127 - x.val)), undef, undef, undef, undef, undef, undef, undef, undef, undef, undef, undef, undef, undef, undef, undef, undef, undef, undef, undef, undef, undef, undef, undef, undef], defers := [] })
    (fun x a' _ X Y row hs' hg hr => by
      obtain ⟨b5, h5, B5, e⟩ := hs'
      exact ⟨b5, h5, B5.grown hg (fun r e => (hr r e).2) ⟨_, rfl⟩, e⟩) ?assign ?body ?done ?stop
  case assign =>
    intro l pre x W K hI hK
    have hl2 := hI.r.lt
    gi_wp2
    refine hK _ _ ((KeepsOthers.alloc _ _).from _) ((Below.refl _ _).alloc (by omega) _) (hI.alloc _) ⟨W.heap.size, by omega, Box.newAt rfl, rfl⟩
  case body =>
    rintro l pre x a' w _ _ hI ⟨b5, hb5, B5, rfl⟩ _
    have hmx : Tryz.prog.follows .mixedOrders = true := by kernel_rfl
    have hr := orS_w A pre
    have hs := orS_snoc A pre x
    obtain ⟨i, hi⟩ : ∃ i, 127 - x.val = i := ⟨_, rfl⟩
    have hi2 : i < 128 := by omega
    have hP := pow_w hi2
    rw [hi] at hs B5
    simp only [hi]
    unfold orStep at hs
    generalize orS A pre = r at *
    have hT := or_w hr hi2
    have f1 := limb_or 1 r (2 ^ i)
    have f0 := limb_or 0 r (2 ^ i)
    generalize 2 ^ i = P at *
    obtain ⟨T, hTd⟩ : ∃ T, r ||| P = T := ⟨_, rfl⟩
    rw [hTd] at hs hT f1 f0
    have hM := mulN_w hT hT
    have hvw : v.heap.size ≤ w.heap.size := hI.old.size
    have Bn := hI.n
    have Bo := hI.o
    have Br := hI.r
    have r0 := Br.cell 0 _ rfl
    have r1 := Br.cell 1 _ rfl
    have b0 := B5.cell 0 _ rfl
    have b1 := B5.cell 1 _ rfl
    have hk := Kept.refl w
    have l1 := Bn.lt
    have l2 := Bo.lt
    have l3 := Br.lt
    have l5 := B5.lt
    clear hTd hi
    by_cases hle : T * T ≤ A
    · have c1 : cmpN (mulN T T) A ≤ 0 := by rw [mulN_def, cmp_le]; exact hle
      rw [if_pos hle] at hs
      have HS := Lib.hid hs
      have HI := Lib.hid hI
      clear hle hs hI
      gi_wp2
      refine round_region_g 6 (fun W' => Kept w.heap.size w W' ∧ w.heap.size + 1 ≤ W'.heap.size ∧ Box W' (v.heap.size) #[.int .u64 (limb 0 A), .int .u64 (limb 1 A), .int .u64 (limb 2 A), .int .u64 (limb 3 A)] ∧ Box W' (v.heap.size + 1) #[.int .u64 0, .int .u64 0] ∧ Box W' (v.heap.size + 1 + 1) #[.int .u64 (limb 1 r), .int .u64 (limb 0 r)] ∧ Box W' (b5) #[.int .u64 (limb 1 P), .int .u64 (limb 0 P)] ∧ Box W' (w.heap.size) #[.int .u64 (limb 1 T), .int .u64 (limb 0 T)]) (fun W' => Kept w.heap.size w W' ∧ w.heap.size + 1 ≤ W'.heap.size ∧ Box W' (v.heap.size) #[.int .u64 (limb 0 A), .int .u64 (limb 1 A), .int .u64 (limb 2 A), .int .u64 (limb 3 A)] ∧ Box W' (v.heap.size + 1) #[.int .u64 0, .int .u64 0] ∧ Box W' (v.heap.size + 1 + 1) #[.int .u64 (limb 1 r), .int .u64 (limb 0 r)] ∧ Box W' (b5) #[.int .u64 (limb 1 P), .int .u64 (limb 0 P)] ∧ Box W' (w.heap.size) #[.int .u64 (limb 1 T), .int .u64 (limb 0 T)]) 1000 (w.heap.size + 1) [.known (bitsV T), .known (bitsV T), .known (wideV (mulN T T)), .known (wideV A), .known (.int .i64 (cmpN (mulN T T) A)), .known (.bool true)] (by rintro ⟨_, _, h⟩; exact h) (by kernel_rfl) (by kernel_rfl) (by kernel_rfl) (fun W W' h hb => ⟨h.1.step hb, Nat.le_trans (h.2.1) hb.size, Box.call hb (h.2.2.1), Box.call hb (h.2.2.2.1), Box.call hb (h.2.2.2.2.1), Box.call hb (h.2.2.2.2.2.1), Box.call hb (h.2.2.2.2.2.2)⟩) (fun W W' h hb => ⟨h.1.step hb, Nat.le_trans (h.2.1) hb.size, Box.call hb (h.2.2.1), Box.call hb (h.2.2.2.1), Box.call hb (h.2.2.2.2.1), Box.call hb (h.2.2.2.2.2.1), Box.call hb (h.2.2.2.2.2.2)⟩) (no_out (of_decide_eq_true (by kernel_rfl))) (.inl (by kernel_rfl)) (.inl (by kernel_rfl)) (fun _ h => h.2.1) (fun _ h => h.2.1) (⟨(by repeat (first | with_reducible exact hk | with_reducible exact Kept.refl _ | with_reducible refine Kept.alloc ?_ _ | with_reducible refine Kept.drew ?_ | with_reducible refine Kept.setCell ?_ (by simp only [World.size_alloc, World.size_setCell, World.size_drew]; omega) _)), (by (try simp only [World.size_alloc, World.size_setCell, World.size_drew]); omega), (by repeat (first | with_reducible assumption | with_reducible apply Box.set10 | with_reducible apply Box.set20 | with_reducible apply Box.set21 | with_reducible apply Box.set40 | with_reducible apply Box.set41 | with_reducible apply Box.set42 | with_reducible apply Box.set43 | with_reducible apply Box.set50 | with_reducible apply Box.set51 | with_reducible apply Box.set52 | with_reducible apply Box.set53 | with_reducible apply Box.set54 | with_reducible apply Box.drew | (with_reducible apply Box.newAt; (try simp only [World.size_alloc, World.size_setCell, World.size_drew]); done) | with_reducible apply Box.alloc | (with_reducible apply Box.other; case hne => ((try simp only [World.size_alloc, World.size_setCell, World.size_drew]); omega)))), (by repeat (first | with_reducible assumption | with_reducible apply Box.set10 | with_reducible apply Box.set20 | with_reducible apply Box.set21 | with_reducible apply Box.set40 | with_reducible apply Box.set41 | with_reducible apply Box.set42 | with_reducible apply Box.set43 | with_reducible apply Box.set50 | with_reducible apply Box.set51 | with_reducible apply Box.set52 | with_reducible apply Box.set53 | with_reducible apply Box.set54 | with_reducible apply Box.drew | (with_reducible apply Box.newAt; (try simp only [World.size_alloc, World.size_setCell, World.size_drew]); done) | with_reducible apply Box.alloc | (with_reducible apply Box.other; case hne => ((try simp only [World.size_alloc, World.size_setCell, World.size_drew]); omega)))), (by repeat (first | with_reducible assumption | with_reducible apply Box.set10 | with_reducible apply Box.set20 | with_reducible apply Box.set21 | with_reducible apply Box.set40 | with_reducible apply Box.set41 | with_reducible apply Box.set42 | with_reducible apply Box.set43 | with_reducible apply Box.set50 | with_reducible apply Box.set51 | with_reducible apply Box.set52 | with_reducible apply Box.set53 | with_reducible apply Box.set54 | with_reducible apply Box.drew | (with_reducible apply Box.newAt; (try simp only [World.size_alloc, World.size_setCell, World.size_drew]); done) | with_reducible apply Box.alloc | (with_reducible apply Box.other; case hne => ((try simp only [World.size_alloc, World.size_setCell, World.size_drew]); omega)))), (by repeat (first | with_reducible assumption | with_reducible apply Box.set10 | with_reducible apply Box.set20 | with_reducible apply Box.set21 | with_reducible apply Box.set40 | with_reducible apply Box.set41 | with_reducible apply Box.set42 | with_reducible apply Box.set43 | with_reducible apply Box.set50 | with_reducible apply Box.set51 | with_reducible apply Box.set52 | with_reducible apply Box.set53 | with_reducible apply Box.set54 | with_reducible apply Box.drew | (with_reducible apply Box.newAt; (try simp only [World.size_alloc, World.size_setCell, World.size_drew]); done) | with_reducible apply Box.alloc | (with_reducible apply Box.other; case hne => ((try simp only [World.size_alloc, World.size_setCell, World.size_drew]); omega)))), (by repeat (first | with_reducible assumption | with_reducible apply Box.set10 | with_reducible apply Box.set20 | with_reducible apply Box.set21 | with_reducible apply Box.set40 | with_reducible apply Box.set41 | with_reducible apply Box.set42 | with_reducible apply Box.set43 | with_reducible apply Box.set50 | with_reducible apply Box.set51 | with_reducible apply Box.set52 | with_reducible apply Box.set53 | with_reducible apply Box.set54 | with_reducible apply Box.drew | (with_reducible apply Box.newAt; (try simp only [World.size_alloc, World.size_setCell, World.size_drew]); done) | with_reducible apply Box.alloc | (with_reducible apply Box.other; case hne => ((try simp only [World.size_alloc, World.size_setCell, World.size_drew]); omega))))⟩) ?_
      clear hk
      intro ρ
      simp only [List.take_succ_cons, List.take_zero, List.drop_succ_cons, List.drop_zero]
      refine ⟨?_, ?_⟩
      · as_aux_lemma =>
        intro y_ hS_ hO_ hD
        have Q := ((hS_ (by rfl)).2.2.2.2.2.2).cell
        have q0 := Q 0 _ rfl
        have q1 := Q 1 _ rfl
        clear Q hS_ hO_ hD
        refine s_val (by rfl) (by rfl) ?_
        go_simp; first | done | with_reducible rfl
      simp only [Act.put, planVG, List.setIfInBounds_toArray, List.set_cons_zero, List.set_cons_succ, List.getElem?_cons_zero, List.getElem?_cons_succ]
      refine ⟨?_, ?_⟩
      · as_aux_lemma =>
        intro y_ hS_ hO_ hD
        have Q := ((hS_ (by rfl)).2.2.2.2.2.2).cell
        have q0 := Q 0 _ rfl
        have q1 := Q 1 _ rfl
        clear Q hS_ hO_ hD
        refine s_val (by rfl) (by rfl) ?_
        go_simp; first | done | with_reducible rfl
      simp only [Act.put, planVG, List.setIfInBounds_toArray, List.set_cons_zero, List.set_cons_succ, List.getElem?_cons_zero, List.getElem?_cons_succ]
      refine ⟨?_, ?_⟩
      · as_aux_lemma =>
        intro y_ hS_ hO_ hD
        try clear hS
        clear hS_ hO_ hD
        refine s_call ?_ ?_ (by rfl) (by rfl) ?_ ?_
        rotate_left 2
        · go_simp; first | done | with_reducible rfl | (constructor <;> with_reducible rfl)
        · refine MulW_at (IsBits.of hT) (IsBits.of hT) _
      simp only [Act.put, planVG, List.setIfInBounds_toArray, List.set_cons_zero, List.set_cons_succ, List.getElem?_cons_zero, List.getElem?_cons_succ]
      refine ⟨?_, ?_⟩
      · as_aux_lemma =>
        intro y_ hS_ hO_ hD
        have Q := ((hS_ (by rfl)).2.2.1).cell
        have q0 := Q 0 _ rfl
        have q1 := Q 1 _ rfl
        have q2 := Q 2 _ rfl
        have q3 := Q 3 _ rfl
        clear Q hS_ hO_ hD
        refine s_val (by rfl) (by rfl) ?_
        go_simp; first | done | with_reducible rfl
      simp only [Act.put, planVG, List.setIfInBounds_toArray, List.set_cons_zero, List.set_cons_succ, List.getElem?_cons_zero, List.getElem?_cons_succ]
      refine ⟨?_, ?_⟩
      · as_aux_lemma =>
        intro y_ hS_ hO_ hD
        try clear hS
        clear hS_ hO_ hD
        refine s_call ?_ ?_ (by rfl) (by rfl) ?_ ?_
        rotate_left 2
        · go_simp; first | done | with_reducible rfl | (constructor <;> with_reducible rfl)
        · refine CmpW_at (IsWide.of hM) (IsWide.of hA) _
      simp only [Act.put, planVG, List.setIfInBounds_toArray, List.set_cons_zero, List.set_cons_succ, List.getElem?_cons_zero, List.getElem?_cons_succ]
      refine ⟨?_, ?_⟩
      · as_aux_lemma =>
        intro y_ hS_ hO_ hD
        clear hS_ hO_ hD
        refine s_val (by rfl) (by rfl) ?_
        go_simp; first | done | with_reducible rfl
      simp only [Act.put, planVG, List.setIfInBounds_toArray, List.set_cons_zero, List.set_cons_succ, List.getElem?_cons_zero, List.getElem?_cons_succ]
      as_aux_lemma =>
        intro w5 hS hF hD_
        change wpList _ _ _ _ _ _
        replace hS := sg_no (by decide) hS
        obtain ⟨hk, hZ5, Bn, Bo, Br, B5, B6⟩ := hS
        clear hF hD_
        clear ρ
        have hz_w5 := hk.size
        have Bnl := Bn.lt
        have Bnf := Bn.free
        have Bnl1 : v.heap.size < w5.heap.size + 1 := by omega
        have Bnl2 : v.heap.size < w5.heap.size + 1 + 1 := by omega
        have Bnl3 : v.heap.size < w5.heap.size + 1 + 1 + 1 := by omega
        have Bn0 := Bn.cell 0 _ rfl
        have Bn1 := Bn.cell 1 _ rfl
        have Bn2 := Bn.cell 2 _ rfl
        have Bn3 := Bn.cell 3 _ rfl
        have Bol := Bo.lt
        have Bof := Bo.free
        have Bol1 : v.heap.size + 1 < w5.heap.size + 1 := by omega
        have Bol2 : v.heap.size + 1 < w5.heap.size + 1 + 1 := by omega
        have Bol3 : v.heap.size + 1 < w5.heap.size + 1 + 1 + 1 := by omega
        have Bo0 := Bo.cell 0 _ rfl
        have Bo1 := Bo.cell 1 _ rfl
        have Brl := Br.lt
        have Brf := Br.free
        have Brl1 : v.heap.size + 1 + 1 < w5.heap.size + 1 := by omega
        have Brl2 : v.heap.size + 1 + 1 < w5.heap.size + 1 + 1 := by omega
        have Brl3 : v.heap.size + 1 + 1 < w5.heap.size + 1 + 1 + 1 := by omega
        have Br0 := Br.cell 0 _ rfl
        have Br1 := Br.cell 1 _ rfl
        have B5l := B5.lt
        have B5f := B5.free
        have B5l1 : b5 < w5.heap.size + 1 := by omega
        have B5l2 : b5 < w5.heap.size + 1 + 1 := by omega
        have B5l3 : b5 < w5.heap.size + 1 + 1 + 1 := by omega
        have B50 := B5.cell 0 _ rfl
        have B51 := B5.cell 1 _ rfl
        have B6l := B6.lt
        have B6f := B6.free
        have B6l1 : w.heap.size < w5.heap.size + 1 := by omega
        have B6l2 : w.heap.size < w5.heap.size + 1 + 1 := by omega
        have B6l3 : w.heap.size < w5.heap.size + 1 + 1 + 1 := by omega
        have B60 := B6.cell 0 _ rfl
        have B61 := B6.cell 1 _ rfl
        have I2 := HI.out.call hk.below
        have hO := below_others hk.below
        have hbl := hk.below
        clear HI
        go_wp2
        gi_wp2
        have I3 := I2.setR (r' := T)
        refine ⟨((hO.trans (KeepsOthers.setCell _ _ _)).trans (KeepsOthers.setCell _ _ _)).from _, (((hbl.mono hvw).setCell (by simp only []; omega) _).setCell (by simp only []; omega) _), ?_⟩
        show RootS v A (orS A (pre ++ [x])) _
        rw [HS.out]
        exact I3
    · have c1 : ¬ cmpN (mulN T T) A ≤ 0 := by rw [mulN_def, cmp_le]; exact hle
      rw [if_neg hle] at hs
      have HS := Lib.hid hs
      have HI := Lib.hid hI
      clear hle hs hI
      gi_wp2
      refine round_region_g 6 (fun W' => Kept w.heap.size w W' ∧ w.heap.size + 1 ≤ W'.heap.size ∧ Box W' (v.heap.size) #[.int .u64 (limb 0 A), .int .u64 (limb 1 A), .int .u64 (limb 2 A), .int .u64 (limb 3 A)] ∧ Box W' (v.heap.size + 1) #[.int .u64 0, .int .u64 0] ∧ Box W' (v.heap.size + 1 + 1) #[.int .u64 (limb 1 r), .int .u64 (limb 0 r)] ∧ Box W' (b5) #[.int .u64 (limb 1 P), .int .u64 (limb 0 P)] ∧ Box W' (w.heap.size) #[.int .u64 (limb 1 T), .int .u64 (limb 0 T)]) (fun W' => Kept w.heap.size w W' ∧ w.heap.size + 1 ≤ W'.heap.size ∧ Box W' (v.heap.size) #[.int .u64 (limb 0 A), .int .u64 (limb 1 A), .int .u64 (limb 2 A), .int .u64 (limb 3 A)] ∧ Box W' (v.heap.size + 1) #[.int .u64 0, .int .u64 0] ∧ Box W' (v.heap.size + 1 + 1) #[.int .u64 (limb 1 r), .int .u64 (limb 0 r)] ∧ Box W' (b5) #[.int .u64 (limb 1 P), .int .u64 (limb 0 P)] ∧ Box W' (w.heap.size) #[.int .u64 (limb 1 T), .int .u64 (limb 0 T)]) 1000 (w.heap.size + 1) [.known (bitsV T), .known (bitsV T), .known (wideV (mulN T T)), .known (wideV A), .known (.int .i64 (cmpN (mulN T T) A)), .known (.bool false)] (by rintro ⟨_, _, h⟩; exact h) (by kernel_rfl) (by kernel_rfl) (by kernel_rfl) (fun W W' h hb => ⟨h.1.step hb, Nat.le_trans (h.2.1) hb.size, Box.call hb (h.2.2.1), Box.call hb (h.2.2.2.1), Box.call hb (h.2.2.2.2.1), Box.call hb (h.2.2.2.2.2.1), Box.call hb (h.2.2.2.2.2.2)⟩) (fun W W' h hb => ⟨h.1.step hb, Nat.le_trans (h.2.1) hb.size, Box.call hb (h.2.2.1), Box.call hb (h.2.2.2.1), Box.call hb (h.2.2.2.2.1), Box.call hb (h.2.2.2.2.2.1), Box.call hb (h.2.2.2.2.2.2)⟩) (no_out (of_decide_eq_true (by kernel_rfl))) (.inl (by kernel_rfl)) (.inl (by kernel_rfl)) (fun _ h => h.2.1) (fun _ h => h.2.1) (⟨(by repeat (first | with_reducible exact hk | with_reducible exact Kept.refl _ | with_reducible refine Kept.alloc ?_ _ | with_reducible refine Kept.drew ?_ | with_reducible refine Kept.setCell ?_ (by simp only [World.size_alloc, World.size_setCell, World.size_drew]; omega) _)), (by (try simp only [World.size_alloc, World.size_setCell, World.size_drew]); omega), (by repeat (first | with_reducible assumption | with_reducible apply Box.set10 | with_reducible apply Box.set20 | with_reducible apply Box.set21 | with_reducible apply Box.set40 | with_reducible apply Box.set41 | with_reducible apply Box.set42 | with_reducible apply Box.set43 | with_reducible apply Box.set50 | with_reducible apply Box.set51 | with_reducible apply Box.set52 | with_reducible apply Box.set53 | with_reducible apply Box.set54 | with_reducible apply Box.drew | (with_reducible apply Box.newAt; (try simp only [World.size_alloc, World.size_setCell, World.size_drew]); done) | with_reducible apply Box.alloc | (with_reducible apply Box.other; case hne => ((try simp only [World.size_alloc, World.size_setCell, World.size_drew]); omega)))), (by repeat (first | with_reducible assumption | with_reducible apply Box.set10 | with_reducible apply Box.set20 | with_reducible apply Box.set21 | with_reducible apply Box.set40 | with_reducible apply Box.set41 | with_reducible apply Box.set42 | with_reducible apply Box.set43 | with_reducible apply Box.set50 | with_reducible apply Box.set51 | with_reducible apply Box.set52 | with_reducible apply Box.set53 | with_reducible apply Box.set54 | with_reducible apply Box.drew | (with_reducible apply Box.newAt; (try simp only [World.size_alloc, World.size_setCell, World.size_drew]); done) | with_reducible apply Box.alloc | (with_reducible apply Box.other; case hne => ((try simp only [World.size_alloc, World.size_setCell, World.size_drew]); omega)))), (by repeat (first | with_reducible assumption | with_reducible apply Box.set10 | with_reducible apply Box.set20 | with_reducible apply Box.set21 | with_reducible apply Box.set40 | with_reducible apply Box.set41 | with_reducible apply Box.set42 | with_reducible apply Box.set43 | with_reducible apply Box.set50 | with_reducible apply Box.set51 | with_reducible apply Box.set52 | with_reducible apply Box.set53 | with_reducible apply Box.set54 | with_reducible apply Box.drew | (with_reducible apply Box.newAt; (try simp only [World.size_alloc, World.size_setCell, World.size_drew]); done) | with_reducible apply Box.alloc | (with_reducible apply Box.other; case hne => ((try simp only [World.size_alloc, World.size_setCell, World.size_drew]); omega)))), (by repeat (first | with_reducible assumption | with_reducible apply Box.set10 | with_reducible apply Box.set20 | with_reducible apply Box.set21 | with_reducible apply Box.set40 | with_reducible apply Box.set41 | with_reducible apply Box.set42 | with_reducible apply Box.set43 | with_reducible apply Box.set50 | with_reducible apply Box.set51 | with_reducible apply Box.set52 | with_reducible apply Box.set53 | with_reducible apply Box.set54 | with_reducible apply Box.drew | (with_reducible apply Box.newAt; (try simp only [World.size_alloc, World.size_setCell, World.size_drew]); done) | with_reducible apply Box.alloc | (with_reducible apply Box.other; case hne => ((try simp only [World.size_alloc, World.size_setCell, World.size_drew]); omega)))), (by repeat (first | with_reducible assumption | with_reducible apply Box.set10 | with_reducible apply Box.set20 | with_reducible apply Box.set21 | with_reducible apply Box.set40 | with_reducible apply Box.set41 | with_reducible apply Box.set42 | with_reducible apply Box.set43 | with_reducible apply Box.set50 | with_reducible apply Box.set51 | with_reducible apply Box.set52 | with_reducible apply Box.set53 | with_reducible apply Box.set54 | with_reducible apply Box.drew | (with_reducible apply Box.newAt; (try simp only [World.size_alloc, World.size_setCell, World.size_drew]); done) | with_reducible apply Box.alloc | (with_reducible apply Box.other; case hne => ((try simp only [World.size_alloc, World.size_setCell, World.size_drew]); omega))))⟩) ?_
      clear hk
      intro ρ
      simp only [List.take_succ_cons, List.take_zero, List.drop_succ_cons, List.drop_zero]
      refine ⟨?_, ?_⟩
      · as_aux_lemma =>
        intro y_ hS_ hO_ hD
        have Q := ((hS_ (by rfl)).2.2.2.2.2.2).cell
        have q0 := Q 0 _ rfl
        have q1 := Q 1 _ rfl
        clear Q hS_ hO_ hD
        refine s_val (by rfl) (by rfl) ?_
        go_simp; first | done | with_reducible rfl
      simp only [Act.put, planVG, List.setIfInBounds_toArray, List.set_cons_zero, List.set_cons_succ, List.getElem?_cons_zero, List.getElem?_cons_succ]
      refine ⟨?_, ?_⟩
      · as_aux_lemma =>
        intro y_ hS_ hO_ hD
        have Q := ((hS_ (by rfl)).2.2.2.2.2.2).cell
        have q0 := Q 0 _ rfl
        have q1 := Q 1 _ rfl
        clear Q hS_ hO_ hD
        refine s_val (by rfl) (by rfl) ?_
        go_simp; first | done | with_reducible rfl
      simp only [Act.put, planVG, List.setIfInBounds_toArray, List.set_cons_zero, List.set_cons_succ, List.getElem?_cons_zero, List.getElem?_cons_succ]
      refine ⟨?_, ?_⟩
      · as_aux_lemma =>
        intro y_ hS_ hO_ hD
        try clear hS
        clear hS_ hO_ hD
        refine s_call ?_ ?_ (by rfl) (by rfl) ?_ ?_
        rotate_left 2
        · go_simp; first | done | with_reducible rfl | (constructor <;> with_reducible rfl)
        · refine MulW_at (IsBits.of hT) (IsBits.of hT) _
      simp only [Act.put, planVG, List.setIfInBounds_toArray, List.set_cons_zero, List.set_cons_succ, List.getElem?_cons_zero, List.getElem?_cons_succ]
      refine ⟨?_, ?_⟩
      · as_aux_lemma =>
        intro y_ hS_ hO_ hD
        have Q := ((hS_ (by rfl)).2.2.1).cell
        have q0 := Q 0 _ rfl
        have q1 := Q 1 _ rfl
        have q2 := Q 2 _ rfl
        have q3 := Q 3 _ rfl
        clear Q hS_ hO_ hD
        refine s_val (by rfl) (by rfl) ?_
        go_simp; first | done | with_reducible rfl
      simp only [Act.put, planVG, List.setIfInBounds_toArray, List.set_cons_zero, List.set_cons_succ, List.getElem?_cons_zero, List.getElem?_cons_succ]
      refine ⟨?_, ?_⟩
      · as_aux_lemma =>
        intro y_ hS_ hO_ hD
        try clear hS
        clear hS_ hO_ hD
        refine s_call ?_ ?_ (by rfl) (by rfl) ?_ ?_
        rotate_left 2
        · go_simp; first | done | with_reducible rfl | (constructor <;> with_reducible rfl)
        · refine CmpW_at (IsWide.of hM) (IsWide.of hA) _
      simp only [Act.put, planVG, List.setIfInBounds_toArray, List.set_cons_zero, List.set_cons_succ, List.getElem?_cons_zero, List.getElem?_cons_succ]
      refine ⟨?_, ?_⟩
      · as_aux_lemma =>
        intro y_ hS_ hO_ hD
        clear hS_ hO_ hD
        refine s_val (by rfl) (by rfl) ?_
        go_simp; first | done | with_reducible rfl
      simp only [Act.put, planVG, List.setIfInBounds_toArray, List.set_cons_zero, List.set_cons_succ, List.getElem?_cons_zero, List.getElem?_cons_succ]
      as_aux_lemma =>
        intro w5 hS hF hD_
        change wpList _ _ _ _ _ _
        replace hS := sg_no (by decide) hS
        obtain ⟨hk, hZ5, Bn, Bo, Br, B5, B6⟩ := hS
        clear hF hD_
        clear ρ
        have hz_w5 := hk.size
        have Bnl := Bn.lt
        have Bnf := Bn.free
        have Bnl1 : v.heap.size < w5.heap.size + 1 := by omega
        have Bnl2 : v.heap.size < w5.heap.size + 1 + 1 := by omega
        have Bnl3 : v.heap.size < w5.heap.size + 1 + 1 + 1 := by omega
        have Bn0 := Bn.cell 0 _ rfl
        have Bn1 := Bn.cell 1 _ rfl
        have Bn2 := Bn.cell 2 _ rfl
        have Bn3 := Bn.cell 3 _ rfl
        have Bol := Bo.lt
        have Bof := Bo.free
        have Bol1 : v.heap.size + 1 < w5.heap.size + 1 := by omega
        have Bol2 : v.heap.size + 1 < w5.heap.size + 1 + 1 := by omega
        have Bol3 : v.heap.size + 1 < w5.heap.size + 1 + 1 + 1 := by omega
        have Bo0 := Bo.cell 0 _ rfl
        have Bo1 := Bo.cell 1 _ rfl
        have Brl := Br.lt
        have Brf := Br.free
        have Brl1 : v.heap.size + 1 + 1 < w5.heap.size + 1 := by omega
        have Brl2 : v.heap.size + 1 + 1 < w5.heap.size + 1 + 1 := by omega
        have Brl3 : v.heap.size + 1 + 1 < w5.heap.size + 1 + 1 + 1 := by omega
        have Br0 := Br.cell 0 _ rfl
        have Br1 := Br.cell 1 _ rfl
        have B5l := B5.lt
        have B5f := B5.free
        have B5l1 : b5 < w5.heap.size + 1 := by omega
        have B5l2 : b5 < w5.heap.size + 1 + 1 := by omega
        have B5l3 : b5 < w5.heap.size + 1 + 1 + 1 := by omega
        have B50 := B5.cell 0 _ rfl
        have B51 := B5.cell 1 _ rfl
        have B6l := B6.lt
        have B6f := B6.free
        have B6l1 : w.heap.size < w5.heap.size + 1 := by omega
        have B6l2 : w.heap.size < w5.heap.size + 1 + 1 := by omega
        have B6l3 : w.heap.size < w5.heap.size + 1 + 1 + 1 := by omega
        have B60 := B6.cell 0 _ rfl
        have B61 := B6.cell 1 _ rfl
        have I2 := HI.out.call hk.below
        have hO := below_others hk.below
        have hbl := hk.below
        clear HI
        go_wp2
        gi_wp2
        refine ⟨hO.from _, hbl.mono hvw, ?_⟩
        show RootS v A (orS A (pre ++ [x])) _
        rw [HS.out]
        exact I2
  case done =>
    rintro D' ys u hD0 rfl I0 hD
    rw [orS_all hA] at I0
    have hR := rootN_w hA
    have hex : exactB A = decide (rootN A * rootN A = A) := rfl
    obtain ⟨R, hRd⟩ : ∃ R, rootN A = R := ⟨_, rfl⟩
    rw [hRd] at I0 hR hex
    have hM := mulN_w hR hR
    have Bn := I0.n
    have Bo := I0.o
    have Br := I0.r
    have hk : Kept v.heap.size v u := ⟨I0.old, I0.old.size⟩
    have l1 := Bn.lt
    have l2 := Bo.lt
    have l3 := Br.lt
    clear I0 S1
    obtain ⟨w, hw⟩ : ∃ w, w = v := ⟨_, rfl⟩
    subst hw
    have hu : w.heap.size + 1 + 1 < u.heap.size := l3
    gi_wp2
    refine wpIn_wide.2 ?_
    by_cases hE : R * R = A
    · have HE := Lib.hid (show mulN R R = A by rw [mulN_def]; exact hE)
      have HX := Lib.hid (show exactB A = true by rw [hex]; exact decide_eq_true hE)
      clear hE hex
      refine wp_region_g 7 (fun W' => Kept w.heap.size w W' ∧ u.heap.size ≤ W'.heap.size ∧ Box W' (w.heap.size) #[.int .u64 (limb 0 A), .int .u64 (limb 1 A), .int .u64 (limb 2 A), .int .u64 (limb 3 A)] ∧ Box W' (w.heap.size + 1) #[.int .u64 0, .int .u64 0] ∧ Box W' (w.heap.size + 1 + 1) #[.int .u64 (limb 1 R), .int .u64 (limb 0 R)] ∧ W'.heap[D']? = some (.deferred (some []))) (fun W' => Kept w.heap.size w W' ∧ u.heap.size ≤ W'.heap.size ∧ Box W' (w.heap.size) #[.int .u64 (limb 0 A), .int .u64 (limb 1 A), .int .u64 (limb 2 A), .int .u64 (limb 3 A)] ∧ Box W' (w.heap.size + 1) #[.int .u64 (limb 1 R), .int .u64 (limb 0 R)] ∧ Box W' (w.heap.size + 1 + 1) #[.int .u64 (limb 1 R), .int .u64 (limb 0 R)] ∧ W'.heap[D']? = some (.deferred (some []))) 6 (u.heap.size) [.known (bitsV R), .known (bitsV R), .known (bitsV R), .known (wideV A), .known (wideV A), .known (.bool true), .out (w.heap.size + 1) [.int .u64 (limb 1 R), .int .u64 (limb 0 R)]] (by kernel_rfl) (by kernel_rfl) (fun W W' h hb => ⟨h.1.step hb, Nat.le_trans (h.2.1) hb.size, Box.call hb (h.2.2.1), Box.call hb (h.2.2.2.1), Box.call hb (h.2.2.2.2.1), def_call hb (h.2.2.2.2.2)⟩) (fun W W' h hb => ⟨h.1.step hb, Nat.le_trans (h.2.1) hb.size, Box.call hb (h.2.2.1), Box.call hb (h.2.2.2.1), Box.call hb (h.2.2.2.2.1), def_call hb (h.2.2.2.2.2)⟩) (fun b V e => by
        obtain ⟨rfl, rfl⟩ : b = w.heap.size + 1 ∧ V = [.int .u64 (limb 1 R), .int .u64 (limb 0 R)] := by injection e with e; injection e with e1 e2; exact ⟨e1.symm, e2.symm⟩
        exact ⟨by omega, fun w' h => ⟨(by simp only [putCells]; exact ((h.1).setCell (p := ⟨w.heap.size + 1, 0, none⟩) (by simp only []; omega) _).setCell (p := ⟨w.heap.size + 1, 1, none⟩) (by simp only []; omega) _), (by rw [putCells_size]; exact h.2.1), (by simp only [putCells]; exact ((h.2.2.1).other (by omega)).other (by omega)), (by simp only [putCells]; with_reducible apply Box.set21; with_reducible apply Box.set20; exact h.2.2.2.1), (by simp only [putCells]; exact ((h.2.2.2.2.1).other (by omega)).other (by omega)), (by simp only [putCells]; exact def_set (def_set (h.2.2.2.2.2)))⟩⟩) (.inl (by kernel_rfl)) (.inl (by kernel_rfl)) (fun _ h => h.2.1) (fun _ h => h.2.1) (⟨(by repeat (first | with_reducible exact hk | with_reducible exact Kept.refl _ | with_reducible refine Kept.alloc ?_ _ | with_reducible refine Kept.drew ?_ | with_reducible refine Kept.setCell ?_ (by simp only [World.size_alloc, World.size_setCell, World.size_drew]; omega) _)), (by (try simp only [World.size_alloc, World.size_setCell, World.size_drew]); omega), (by repeat (first | with_reducible assumption | with_reducible apply Box.set10 | with_reducible apply Box.set20 | with_reducible apply Box.set21 | with_reducible apply Box.set40 | with_reducible apply Box.set41 | with_reducible apply Box.set42 | with_reducible apply Box.set43 | with_reducible apply Box.set50 | with_reducible apply Box.set51 | with_reducible apply Box.set52 | with_reducible apply Box.set53 | with_reducible apply Box.set54 | with_reducible apply Box.drew | (with_reducible apply Box.newAt; (try simp only [World.size_alloc, World.size_setCell, World.size_drew]); done) | with_reducible apply Box.alloc | (with_reducible apply Box.other; case hne => ((try simp only [World.size_alloc, World.size_setCell, World.size_drew]); omega)))), (by repeat (first | with_reducible assumption | with_reducible apply Box.set10 | with_reducible apply Box.set20 | with_reducible apply Box.set21 | with_reducible apply Box.set40 | with_reducible apply Box.set41 | with_reducible apply Box.set42 | with_reducible apply Box.set43 | with_reducible apply Box.set50 | with_reducible apply Box.set51 | with_reducible apply Box.set52 | with_reducible apply Box.set53 | with_reducible apply Box.set54 | with_reducible apply Box.drew | (with_reducible apply Box.newAt; (try simp only [World.size_alloc, World.size_setCell, World.size_drew]); done) | with_reducible apply Box.alloc | (with_reducible apply Box.other; case hne => ((try simp only [World.size_alloc, World.size_setCell, World.size_drew]); omega)))), (by repeat (first | with_reducible assumption | with_reducible apply Box.set10 | with_reducible apply Box.set20 | with_reducible apply Box.set21 | with_reducible apply Box.set40 | with_reducible apply Box.set41 | with_reducible apply Box.set42 | with_reducible apply Box.set43 | with_reducible apply Box.set50 | with_reducible apply Box.set51 | with_reducible apply Box.set52 | with_reducible apply Box.set53 | with_reducible apply Box.set54 | with_reducible apply Box.drew | (with_reducible apply Box.newAt; (try simp only [World.size_alloc, World.size_setCell, World.size_drew]); done) | with_reducible apply Box.alloc | (with_reducible apply Box.other; case hne => ((try simp only [World.size_alloc, World.size_setCell, World.size_drew]); omega)))), (by with_reducible exact def_drew hD)⟩) ?_
      clear hk
      clear hD
      intro ρ
      simp only [List.take_succ_cons, List.take_zero, List.drop_succ_cons, List.drop_zero]
      refine ⟨?_, ?_⟩
      · as_aux_lemma =>
        intro y_ hS_ hO_ hD
        have Q := (hO_.elim (fun h => h.2.2.2.2.1) (fun h => h.2.2.2.2.1)).cell
        have q0 := Q 0 _ rfl
        have q1 := Q 1 _ rfl
        clear Q hS_ hO_ hD
        refine s_val (by rfl) (by rfl) ?_
        go_simp; first | done | with_reducible rfl
      simp only [Act.put, planVG, List.setIfInBounds_toArray, List.set_cons_zero, List.set_cons_succ, List.getElem?_cons_zero, List.getElem?_cons_succ]
      refine ⟨?_, ?_⟩
      · as_aux_lemma =>
        intro y_ hS_ hO_ hD
        have Q := (hO_.elim (fun h => h.2.2.2.2.1) (fun h => h.2.2.2.2.1)).cell
        have q0 := Q 0 _ rfl
        have q1 := Q 1 _ rfl
        clear Q hS_ hO_ hD
        refine s_val (by rfl) (by rfl) ?_
        go_simp; first | done | with_reducible rfl
      simp only [Act.put, planVG, List.setIfInBounds_toArray, List.set_cons_zero, List.set_cons_succ, List.getElem?_cons_zero, List.getElem?_cons_succ]
      refine ⟨?_, ?_⟩
      · as_aux_lemma =>
        intro y_ hS_ hO_ hD
        have Q := (hO_.elim (fun h => h.2.2.2.2.1) (fun h => h.2.2.2.2.1)).cell
        have q0 := Q 0 _ rfl
        have q1 := Q 1 _ rfl
        clear Q hS_ hO_ hD
        refine s_val (by rfl) (by rfl) ?_
        go_simp; first | done | with_reducible rfl
      simp only [Act.put, planVG, List.setIfInBounds_toArray, List.set_cons_zero, List.set_cons_succ, List.getElem?_cons_zero, List.getElem?_cons_succ]
      refine ⟨?_, ?_⟩
      · as_aux_lemma =>
        intro y_ hS_ hO_ hD
        try clear hS
        clear hS_ hO_ hD
        refine s_call ?_ ?_ (by rfl) (by rfl) ?_ ?_
        rotate_left 2
        · go_simp; first | done | with_reducible rfl | (constructor <;> with_reducible rfl)
        · refine calls_to (V := wideV A) (MulW_at (IsBits.of hR) (IsBits.of hR) _) (by rw [HE.out])
      simp only [Act.put, planVG, List.setIfInBounds_toArray, List.set_cons_zero, List.set_cons_succ, List.getElem?_cons_zero, List.getElem?_cons_succ]
      refine ⟨?_, ?_⟩
      · as_aux_lemma =>
        intro y_ hS_ hO_ hD
        have Q := (hO_.elim (fun h => h.2.2.1) (fun h => h.2.2.1)).cell
        have q0 := Q 0 _ rfl
        have q1 := Q 1 _ rfl
        have q2 := Q 2 _ rfl
        have q3 := Q 3 _ rfl
        clear Q hS_ hO_ hD
        refine s_val (by rfl) (by rfl) ?_
        go_simp; first | done | with_reducible rfl
      simp only [Act.put, planVG, List.setIfInBounds_toArray, List.set_cons_zero, List.set_cons_succ, List.getElem?_cons_zero, List.getElem?_cons_succ]
      refine ⟨?_, ?_⟩
      · as_aux_lemma =>
        intro y_ hS_ hO_ hD
        clear hS_ hO_ hD
        refine s_val (by rfl) (by rfl) ?_
        go_simp; first | done | with_reducible rfl
      simp only [Act.put, planVG, List.setIfInBounds_toArray, List.set_cons_zero, List.set_cons_succ, List.getElem?_cons_zero, List.getElem?_cons_succ]
      refine ⟨?_, ?_⟩
      · as_aux_lemma =>
        intro y_ hS_ hO_ hD
        have Q := ((hS_ (by rfl)).2.2.2.1).cell
        have q0 := Q 0 _ rfl
        have q1 := Q 1 _ rfl
        have Qf := ((hS_ (by rfl)).2.2.2.1).free
        have Ql := ((hS_ (by rfl)).2.2.2.1).lt
        clear Q hS_ hO_ hD
        refine s_out (by rfl) (by rfl) ?_
        simp only [putCells]
        go_simp; first | done | with_reducible rfl | rfl
      simp only [Act.put, planVG, List.setIfInBounds_toArray, List.set_cons_zero, List.set_cons_succ, List.getElem?_cons_zero, List.getElem?_cons_succ]
      as_aux_lemma =>
        intro w8 hS hF hD_
        change wpList _ _ _ _ _ _
        replace hS := sg_yes (by decide) hS
        obtain ⟨hk, hZ8, Bn, Bo, Br, hD⟩ := hS
        clear hF hD_
        clear ρ
        have hz_w8 := hk.size
        have Bnl := Bn.lt
        have Bnf := Bn.free
        have Bnl1 : w.heap.size < w8.heap.size + 1 := by omega
        have Bnl2 : w.heap.size < w8.heap.size + 1 + 1 := by omega
        have Bnl3 : w.heap.size < w8.heap.size + 1 + 1 + 1 := by omega
        have Bn0 := Bn.cell 0 _ rfl
        have Bn1 := Bn.cell 1 _ rfl
        have Bn2 := Bn.cell 2 _ rfl
        have Bn3 := Bn.cell 3 _ rfl
        have Bol := Bo.lt
        have Bof := Bo.free
        have Bol1 : w.heap.size + 1 < w8.heap.size + 1 := by omega
        have Bol2 : w.heap.size + 1 < w8.heap.size + 1 + 1 := by omega
        have Bol3 : w.heap.size + 1 < w8.heap.size + 1 + 1 + 1 := by omega
        have Bo0 := Bo.cell 0 _ rfl
        have Bo1 := Bo.cell 1 _ rfl
        have Brl := Br.lt
        have Brf := Br.free
        have Brl1 : w.heap.size + 1 + 1 < w8.heap.size + 1 := by omega
        have Brl2 : w.heap.size + 1 + 1 < w8.heap.size + 1 + 1 := by omega
        have Brl3 : w.heap.size + 1 + 1 < w8.heap.size + 1 + 1 + 1 := by omega
        have Br0 := Br.cell 0 _ rfl
        have Br1 := Br.cell 1 _ rfl
        go_wp2
        gi_wp2
        refine ⟨by simp, .inl ⟨_, _, rfl, run_takeDeferred hD, ?_⟩⟩
        have k0 := cell_kept Bo0 (grownBy_putObj' _ D' (.deferred none)) (fun r e => by cases e; exact ⟨_, hD, rfl⟩)
        have k1 := cell_kept Bo1 (grownBy_putObj' _ D' (.deferred none)) (fun r e => by cases e; exact ⟨_, hD, rfl⟩)
        refine ⟨.tuple #[bitsV R, .bool true], ?_, by rw [hRd, HX.out], hk.below.trans (belowK_b (w := w2) (by omega) _ D' _ _ hD0 hD rfl rfl)⟩
        simp [results, Tryz.f100, go_sem, k0, k1]
    · have c1 := eqN_no hM hA (show mulN R R ≠ A by rw [mulN_def]; exact hE)
      have HX := Lib.hid (show exactB A = false by rw [hex]; exact decide_eq_false hE)
      clear hE hex
      refine wp_region_g 7 (fun W' => Kept w.heap.size w W' ∧ u.heap.size ≤ W'.heap.size ∧ Box W' (w.heap.size) #[.int .u64 (limb 0 A), .int .u64 (limb 1 A), .int .u64 (limb 2 A), .int .u64 (limb 3 A)] ∧ Box W' (w.heap.size + 1) #[.int .u64 0, .int .u64 0] ∧ Box W' (w.heap.size + 1 + 1) #[.int .u64 (limb 1 R), .int .u64 (limb 0 R)] ∧ W'.heap[D']? = some (.deferred (some []))) (fun W' => Kept w.heap.size w W' ∧ u.heap.size ≤ W'.heap.size ∧ Box W' (w.heap.size) #[.int .u64 (limb 0 A), .int .u64 (limb 1 A), .int .u64 (limb 2 A), .int .u64 (limb 3 A)] ∧ Box W' (w.heap.size + 1) #[.int .u64 (limb 1 R), .int .u64 (limb 0 R)] ∧ Box W' (w.heap.size + 1 + 1) #[.int .u64 (limb 1 R), .int .u64 (limb 0 R)] ∧ W'.heap[D']? = some (.deferred (some []))) 6 (u.heap.size) [.known (bitsV R), .known (bitsV R), .known (bitsV R), .known (wideV (mulN R R)), .known (wideV A), .known (.bool false), .out (w.heap.size + 1) [.int .u64 (limb 1 R), .int .u64 (limb 0 R)]] (by kernel_rfl) (by kernel_rfl) (fun W W' h hb => ⟨h.1.step hb, Nat.le_trans (h.2.1) hb.size, Box.call hb (h.2.2.1), Box.call hb (h.2.2.2.1), Box.call hb (h.2.2.2.2.1), def_call hb (h.2.2.2.2.2)⟩) (fun W W' h hb => ⟨h.1.step hb, Nat.le_trans (h.2.1) hb.size, Box.call hb (h.2.2.1), Box.call hb (h.2.2.2.1), Box.call hb (h.2.2.2.2.1), def_call hb (h.2.2.2.2.2)⟩) (fun b V e => by
        obtain ⟨rfl, rfl⟩ : b = w.heap.size + 1 ∧ V = [.int .u64 (limb 1 R), .int .u64 (limb 0 R)] := by injection e with e; injection e with e1 e2; exact ⟨e1.symm, e2.symm⟩
        exact ⟨by omega, fun w' h => ⟨(by simp only [putCells]; exact ((h.1).setCell (p := ⟨w.heap.size + 1, 0, none⟩) (by simp only []; omega) _).setCell (p := ⟨w.heap.size + 1, 1, none⟩) (by simp only []; omega) _), (by rw [putCells_size]; exact h.2.1), (by simp only [putCells]; exact ((h.2.2.1).other (by omega)).other (by omega)), (by simp only [putCells]; with_reducible apply Box.set21; with_reducible apply Box.set20; exact h.2.2.2.1), (by simp only [putCells]; exact ((h.2.2.2.2.1).other (by omega)).other (by omega)), (by simp only [putCells]; exact def_set (def_set (h.2.2.2.2.2)))⟩⟩) (.inl (by kernel_rfl)) (.inl (by kernel_rfl)) (fun _ h => h.2.1) (fun _ h => h.2.1) (⟨(by repeat (first | with_reducible exact hk | with_reducible exact Kept.refl _ | with_reducible refine Kept.alloc ?_ _ | with_reducible refine Kept.drew ?_ | with_reducible refine Kept.setCell ?_ (by simp only [World.size_alloc, World.size_setCell, World.size_drew]; omega) _)), (by (try simp only [World.size_alloc, World.size_setCell, World.size_drew]); omega), (by repeat (first | with_reducible assumption | with_reducible apply Box.set10 | with_reducible apply Box.set20 | with_reducible apply Box.set21 | with_reducible apply Box.set40 | with_reducible apply Box.set41 | with_reducible apply Box.set42 | with_reducible apply Box.set43 | with_reducible apply Box.set50 | with_reducible apply Box.set51 | with_reducible apply Box.set52 | with_reducible apply Box.set53 | with_reducible apply Box.set54 | with_reducible apply Box.drew | (with_reducible apply Box.newAt; (try simp only [World.size_alloc, World.size_setCell, World.size_drew]); done) | with_reducible apply Box.alloc | (with_reducible apply Box.other; case hne => ((try simp only [World.size_alloc, World.size_setCell, World.size_drew]); omega)))), (by repeat (first | with_reducible assumption | with_reducible apply Box.set10 | with_reducible apply Box.set20 | with_reducible apply Box.set21 | with_reducible apply Box.set40 | with_reducible apply Box.set41 | with_reducible apply Box.set42 | with_reducible apply Box.set43 | with_reducible apply Box.set50 | with_reducible apply Box.set51 | with_reducible apply Box.set52 | with_reducible apply Box.set53 | with_reducible apply Box.set54 | with_reducible apply Box.drew | (with_reducible apply Box.newAt; (try simp only [World.size_alloc, World.size_setCell, World.size_drew]); done) | with_reducible apply Box.alloc | (with_reducible apply Box.other; case hne => ((try simp only [World.size_alloc, World.size_setCell, World.size_drew]); omega)))), (by repeat (first | with_reducible assumption | with_reducible apply Box.set10 | with_reducible apply Box.set20 | with_reducible apply Box.set21 | with_reducible apply Box.set40 | with_reducible apply Box.set41 | with_reducible apply Box.set42 | with_reducible apply Box.set43 | with_reducible apply Box.set50 | with_reducible apply Box.set51 | with_reducible apply Box.set52 | with_reducible apply Box.set53 | with_reducible apply Box.set54 | with_reducible apply Box.drew | (with_reducible apply Box.newAt; (try simp only [World.size_alloc, World.size_setCell, World.size_drew]); done) | with_reducible apply Box.alloc | (with_reducible apply Box.other; case hne => ((try simp only [World.size_alloc, World.size_setCell, World.size_drew]); omega)))), (by with_reducible exact def_drew hD)⟩) ?_
      clear hk
      clear hD
      intro ρ
      simp only [List.take_succ_cons, List.take_zero, List.drop_succ_cons, List.drop_zero]
      refine ⟨?_, ?_⟩
      · as_aux_lemma =>
        intro y_ hS_ hO_ hD
        have Q := (hO_.elim (fun h => h.2.2.2.2.1) (fun h => h.2.2.2.2.1)).cell
        have q0 := Q 0 _ rfl
        have q1 := Q 1 _ rfl
        clear Q hS_ hO_ hD
        refine s_val (by rfl) (by rfl) ?_
        go_simp; first | done | with_reducible rfl
      simp only [Act.put, planVG, List.setIfInBounds_toArray, List.set_cons_zero, List.set_cons_succ, List.getElem?_cons_zero, List.getElem?_cons_succ]
      refine ⟨?_, ?_⟩
      · as_aux_lemma =>
        intro y_ hS_ hO_ hD
        have Q := (hO_.elim (fun h => h.2.2.2.2.1) (fun h => h.2.2.2.2.1)).cell
        have q0 := Q 0 _ rfl
        have q1 := Q 1 _ rfl
        clear Q hS_ hO_ hD
        refine s_val (by rfl) (by rfl) ?_
        go_simp; first | done | with_reducible rfl
      simp only [Act.put, planVG, List.setIfInBounds_toArray, List.set_cons_zero, List.set_cons_succ, List.getElem?_cons_zero, List.getElem?_cons_succ]
      refine ⟨?_, ?_⟩
      · as_aux_lemma =>
        intro y_ hS_ hO_ hD
        have Q := (hO_.elim (fun h => h.2.2.2.2.1) (fun h => h.2.2.2.2.1)).cell
        have q0 := Q 0 _ rfl
        have q1 := Q 1 _ rfl
        clear Q hS_ hO_ hD
        refine s_val (by rfl) (by rfl) ?_
        go_simp; first | done | with_reducible rfl
      simp only [Act.put, planVG, List.setIfInBounds_toArray, List.set_cons_zero, List.set_cons_succ, List.getElem?_cons_zero, List.getElem?_cons_succ]
      refine ⟨?_, ?_⟩
      · as_aux_lemma =>
        intro y_ hS_ hO_ hD
        try clear hS
        clear hS_ hO_ hD
        refine s_call ?_ ?_ (by rfl) (by rfl) ?_ ?_
        rotate_left 2
        · go_simp; first | done | with_reducible rfl | (constructor <;> with_reducible rfl)
        · refine MulW_at (IsBits.of hR) (IsBits.of hR) _
      simp only [Act.put, planVG, List.setIfInBounds_toArray, List.set_cons_zero, List.set_cons_succ, List.getElem?_cons_zero, List.getElem?_cons_succ]
      refine ⟨?_, ?_⟩
      · as_aux_lemma =>
        intro y_ hS_ hO_ hD
        have Q := (hO_.elim (fun h => h.2.2.1) (fun h => h.2.2.1)).cell
        have q0 := Q 0 _ rfl
        have q1 := Q 1 _ rfl
        have q2 := Q 2 _ rfl
        have q3 := Q 3 _ rfl
        clear Q hS_ hO_ hD
        refine s_val (by rfl) (by rfl) ?_
        go_simp; first | done | with_reducible rfl
      simp only [Act.put, planVG, List.setIfInBounds_toArray, List.set_cons_zero, List.set_cons_succ, List.getElem?_cons_zero, List.getElem?_cons_succ]
      refine ⟨?_, ?_⟩
      · as_aux_lemma =>
        intro y_ hS_ hO_ hD
        clear hS_ hO_ hD
        refine s_val (by rfl) (by rfl) ?_
        go_simp; first | done | with_reducible rfl
      simp only [Act.put, planVG, List.setIfInBounds_toArray, List.set_cons_zero, List.set_cons_succ, List.getElem?_cons_zero, List.getElem?_cons_succ]
      refine ⟨?_, ?_⟩
      · as_aux_lemma =>
        intro y_ hS_ hO_ hD
        have Q := ((hS_ (by rfl)).2.2.2.1).cell
        have q0 := Q 0 _ rfl
        have q1 := Q 1 _ rfl
        have Qf := ((hS_ (by rfl)).2.2.2.1).free
        have Ql := ((hS_ (by rfl)).2.2.2.1).lt
        clear Q hS_ hO_ hD
        refine s_out (by rfl) (by rfl) ?_
        simp only [putCells]
        go_simp; first | done | with_reducible rfl | rfl
      simp only [Act.put, planVG, List.setIfInBounds_toArray, List.set_cons_zero, List.set_cons_succ, List.getElem?_cons_zero, List.getElem?_cons_succ]
      as_aux_lemma =>
        intro w8 hS hF hD_
        change wpList _ _ _ _ _ _
        replace hS := sg_yes (by decide) hS
        obtain ⟨hk, hZ8, Bn, Bo, Br, hD⟩ := hS
        clear hF hD_
        clear ρ
        have hz_w8 := hk.size
        have Bnl := Bn.lt
        have Bnf := Bn.free
        have Bnl1 : w.heap.size < w8.heap.size + 1 := by omega
        have Bnl2 : w.heap.size < w8.heap.size + 1 + 1 := by omega
        have Bnl3 : w.heap.size < w8.heap.size + 1 + 1 + 1 := by omega
        have Bn0 := Bn.cell 0 _ rfl
        have Bn1 := Bn.cell 1 _ rfl
        have Bn2 := Bn.cell 2 _ rfl
        have Bn3 := Bn.cell 3 _ rfl
        have Bol := Bo.lt
        have Bof := Bo.free
        have Bol1 : w.heap.size + 1 < w8.heap.size + 1 := by omega
        have Bol2 : w.heap.size + 1 < w8.heap.size + 1 + 1 := by omega
        have Bol3 : w.heap.size + 1 < w8.heap.size + 1 + 1 + 1 := by omega
        have Bo0 := Bo.cell 0 _ rfl
        have Bo1 := Bo.cell 1 _ rfl
        have Brl := Br.lt
        have Brf := Br.free
        have Brl1 : w.heap.size + 1 + 1 < w8.heap.size + 1 := by omega
        have Brl2 : w.heap.size + 1 + 1 < w8.heap.size + 1 + 1 := by omega
        have Brl3 : w.heap.size + 1 + 1 < w8.heap.size + 1 + 1 + 1 := by omega
        have Br0 := Br.cell 0 _ rfl
        have Br1 := Br.cell 1 _ rfl
        go_wp2
        gi_wp2
        refine ⟨by simp, .inl ⟨_, _, rfl, run_takeDeferred hD, ?_⟩⟩
        have k0 := cell_kept Bo0 (grownBy_putObj' _ D' (.deferred none)) (fun r e => by cases e; exact ⟨_, hD, rfl⟩)
        have k1 := cell_kept Bo1 (grownBy_putObj' _ D' (.deferred none)) (fun r e => by cases e; exact ⟨_, hD, rfl⟩)
        refine ⟨.tuple #[bitsV R, .bool false], ?_, by rw [hRd, HX.out], hk.below.trans (belowK_b (w := w2) (by omega) _ D' _ _ hD0 hD rfl rfl)⟩
        simp [results, Tryz.f100, go_sem, k0, k1]

  case stop =>
    rintro D c pre W _ _ h _
    exact h.elim
theorem Root_any {A : Nat} (hA : W256 A) (w : World) :
    Calls Tryz.prog 100 #[wideV A] w fun e w' => e = .returned (.tuple #[bitsV (rootN A), .bool (exactB A)]) ∧ Below w.heap.size w w' :=
  (callsIn_wide (n := 3)).1 (Root_in 3 (by omega) hA w)
theorem Root_at {a0 a1 a2 a3 : Int} {A : Nat} (hA : IsWide a0 a1 a2 a3 A) (w : World) :
    Calls Tryz.prog 100 #[.agg #[.int .u64 a0, .int .u64 a1, .int .u64 a2, .int .u64 a3]] w fun e w' => e = .returned (.tuple #[bitsV (rootN A), .bool (exactB A)]) ∧ Below w.heap.size w w' := by
  rw [hA.e0, hA.e1, hA.e2, hA.e3]; exact Root_any hA.w w
end Go.Proofs.YtpfoifflfgiaoaaGreatDoor
