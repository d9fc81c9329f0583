/- package wide's chain over the four places: its contract. -/
import Derived.Test.YthpmbfdbknikcaaPlaces
import Derived.Test.YthpmbfdbknikcaaCarry
import Derived.Test.YthpmbfdbknikcaaKept
import Derived.Test.YthpmbfdbknikcaaRegion
import Derived.Outline
set_option linter.unusedVariables false
set_option linter.unusedSimpArgs false
namespace Go.Proofs.Ythpmbfdbknikcaa
open Go.RowKit Go.Shelf
attribute [local go_sem] Oper.semAt_some

theorem places_in (F : Fence) (n : Nat) (h5 : F.fn 79) (hro : F.round = none) (w : World) :
    CallsIn F n Try.prog 79 #[] w fun e w' => e = .returned (.func (.func 87) #[] #[]) ∧ w = w' := by
  refine callsIn_of_wp Try.func79 rfl h5 ?_ hro
  simp only [Try.ntmps79, List.size_toArray, List.length_cons, List.length_nil, Nat.reduceAdd, Nat.reduceSub, Array.replicate_succ, Array.replicate_zero, List.push_toArray, List.append_toArray, List.nil_append, List.cons_append]
  gi_wp2
  go_ret
  exact ⟨rfl, rfl⟩

/-- what the chain has laid behind the places of pre -/
def chSt (S C : Int → Int → Int → Int) (A B : Nat) : List (Fin 4) → (Nat → Int) × Int :=
  List.foldl (fun s x => (fun i => if i = x.val then S (limb x.val A) (limb x.val B) s.2 else s.1 i, C (limb x.val A) (limb x.val B) s.2)) (fun _ => 0, 0)
theorem chSt_snoc (S C : Int → Int → Int → Int) (A B : Nat) (pre : List (Fin 4)) (x : Fin 4) :
    chSt S C A B (pre ++ [x]) = (fun i => if i = x.val then S (limb x.val A) (limb x.val B) (chSt S C A B pre).2 else (chSt S C A B pre).1 i, C (limb x.val A) (limb x.val B) (chSt S C A B pre).2) := by
  unfold chSt; rw [List.foldl_append]; rfl
/-- four cells, read alone; and written too -/
def Four (b : Nat) (f : Nat → Int) (W : World) : Prop := ∀ i, i < 4 → W.cell? ⟨b, i, none⟩ = some (.int .u64 (f i))
def FourW (b : Nat) (f : Nat → Int) (W : World) : Prop := ∀ i, i < 4 → W.cell? ⟨b, i, none⟩ = some (.int .u64 (f i)) ∧ W.frozen? ⟨b, i, none⟩ = false
theorem Four.kept {b : Nat} {f : Nat → Int} {A B : World} {row : Option Nat} (h : Four b f A) (hg : A.grownBy B row) (hr : ∀ r, row = some r → ∃ o : Obj, A.heap[r]? = some o ∧ o.isCells = false) : Four b f B :=
  fun i hi => cell_kept (h i hi) hg hr
theorem FourW.kept {b : Nat} {f : Nat → Int} {A B : World} {row : Option Nat} (h : FourW b f A) (hg : A.grownBy B row) (hr : ∀ r, row = some r → ∃ o : Obj, A.heap[r]? = some o ∧ o.isCells = false) : FourW b f B :=
  fun i hi => ⟨cell_kept (h i hi).1 hg hr, (frozen_kept (h i hi).1 hg hr).trans (h i hi).2⟩

set_option maxRecDepth 100000 in
set_option maxHeartbeats 2000000 in
theorem chain_in (F : Fence) (hW : F = Fence.wide) (n : Nat) (hn : 3 ≤ n)
    (g : Nat) (S C : Int → Int → Int → Int) (hC : ∀ x y c, U64 x → U64 y → 0 ≤ c → c ≤ 1 → 0 ≤ C x y c ∧ C x y c ≤ 1)
    (hrun : ∀ x y c w, U64 x → U64 y → 0 ≤ c → c ≤ 1 → (callFunc g #[.int .u64 x, .int .u64 y, .int .u64 c]).run Try.prog w = .ok (.value (.tuple #[.int .u64 (S x y c), .int .u64 (C x y c)])) w)
    (A B : Nat) (w : World) :
    CallsIn F n Try.prog 64 #[wideV A, wideV B, .func (.func g) #[] #[]] w fun e w' => e = .returned (.tuple #[.agg #[.int .u64 ((chSt S C A B (fourth 4)).1 0), .int .u64 ((chSt S C A B (fourth 4)).1 1), .int .u64 ((chSt S C A B (fourth 4)).1 2), .int .u64 ((chSt S C A B (fourth 4)).1 3)], .bool ((chSt S C A B (fourth 4)).2 != 0)]) ∧ Below w.heap.size w w' := by
  have h1 : 1 ≤ n := by omega
  have hfn : ∀ f, F.fn f := fun f => by rw [hW]; trivial
  have hro : F.round = none := by rw [hW]; rfl
  have h5 : F.fn 79 := hfn _
  have h6 : F.fn 87 := hfn _
  have hf : F.fn 64 := hfn _
  have HW := Lib.hid hW; clear hW hfn
  refine callsIn_of_wp_marks Try.func64 rfl hf ?_ hro
  simp only [Try.ntmps64, List.size_toArray, List.length_cons, List.length_nil, Nat.reduceAdd, Nat.reduceSub, Array.replicate_succ, Array.replicate_zero, List.push_toArray, List.append_toArray, List.nil_append, List.cons_append]
  gi_wp2_with (gi_at_call 79; refine (places_in F (n - 1) h5 hro _).mono ?_; rintro e w' ⟨rfl, rfl⟩)
  refine wpIn_rangeFunc_ownF hro h1 (gf := 87) (lb := #[]) rfl h6 (enters_of Try.func87 (by kernel_rfl) rfl)
    (places_stops F (n - 1) h6 hro (by omega) w.heap.size _) belowK_t (belowK_b (by simp; omega)) (Below.refl _ _) (fun _ => rfl)
    (fun pre W => (Four (w.heap.size) (fun i => limb i A) W ∧ Four (w.heap.size + 1) (fun i => limb i B) W ∧ W.cell? ⟨w.heap.size + 1 + 1, 0, none⟩ = some (.func (.func g) #[] #[]) ∧ FourW (w.heap.size + 1 + 1 + 1) (fun _ => 0) W ∧
      FourW (w.heap.size + 1 + 1 + 1 + 1) (chSt S C A B pre).1 W ∧ W.cell? ⟨w.heap.size + 1 + 1 + 1 + 1 + 1, 0, none⟩ = some (.int .u64 (chSt S C A B pre).2) ∧ W.frozen? ⟨w.heap.size + 1 + 1 + 1 + 1 + 1, 0, none⟩ = false ∧ (0 ≤ (chSt S C A B pre).2 ∧ (chSt S C A B pre).2 ≤ 1)) ∧ Below w.heap.size w W)
    (fun _ _ _ => False)
    (OwnFrom.and (Own.from (fun s X Y row hs hg hr => ⟨hs.1.kept hg hr, hs.2.1.kept hg hr, cell_kept hs.2.2.1 hg hr, hs.2.2.2.1.kept hg hr, hs.2.2.2.2.1.kept hg hr, cell_kept hs.2.2.2.2.2.1 hg hr, (frozen_kept hs.2.2.2.2.2.1 hg hr).trans hs.2.2.2.2.2.2.1, hs.2.2.2.2.2.2.2⟩) _) (ownFrom_below (Nat.le_refl _) (by simp; omega)))
    (fun _ _ _ _ _ hs _ _ => hs)
    ⟨⟨?c0, ?c1, by go_simp, ?c2, ?c3, ?c4, by go_simp, (by unfold chSt; simp)⟩, ?cB⟩
    (fun x => { tmps := #[wideV A, wideV B, .func (.func g) #[] #[], .pointer (some ⟨w.heap.size, 0, none⟩), .pointer (some ⟨w.heap.size + 1, 0, none⟩), .pointer (some ⟨w.heap.size + 1 + 1, 0, none⟩), .pointer (some ⟨w.heap.size + 1 + 1 + 1, 0, none⟩), .bool false,
      .pointer (some ⟨w.heap.size + 1 + 1 + 1 + 1, 0, none⟩), .pointer (some ⟨w.heap.size + 1 + 1 + 1 + 1 + 1, 0, none⟩), .int .i64 (x.val : Int), .func (.func 87) #[] #[], .int .i64 (x.val : Int), undef, undef, undef, undef, undef, undef, undef, undef, undef, undef, undef, undef, undef, undef, undef, undef, undef], defers := [] }) ?assign ?body ?done ?stop
  case assign =>
    intro l x W K hK
    gi_wp2
    exact hK
  case body =>
    rintro l pre ⟨x, hx⟩ W ⟨⟨hA, hB, hF, hR, hO, hc, hcf, hc01⟩, hBel⟩ _
    have hd : 1 ≤ n - 1 - 1 := by omega
    have hW := HW.out; clear HW; subst hW
    have hmx : Try.prog.follows .mixedOrders = true := by kernel_rfl
    have cA := hA x hx
    have cB := hB x hx
    obtain ⟨cO, cOf⟩ := hO x hx
    have hx1 : (x : Int) < 4 := by omega
    have r0 := fun w => hrun (limb x A) (limb x B) (chSt S C A B pre).2 w (limb_u64 _ _) (limb_u64 _ _) hc01.1 hc01.2
    have HA := Lib.hid hA; have HB := Lib.hid hB; have HR := Lib.hid hR; have HO := Lib.hid hO; have HRUN := Lib.hid hrun
    clear hA hB hR hO hrun
    gi_wp2
    refine round_region_head 14 (fun W' => W'.cell? ⟨w.heap.size, x, none⟩ = some (.int .u64 (limb x A)) ∧ W'.cell? ⟨w.heap.size + 1, x, none⟩ = some (.int .u64 (limb x B)) ∧ W'.cell? ⟨w.heap.size + 1 + 1, 0, none⟩ = some (.func (.func g) #[] #[]) ∧ W'.cell? ⟨w.heap.size + 1 + 1 + 1 + 1 + 1, 0, none⟩ = some (.int .u64 (chSt S C A B pre).2)) (by rintro ⟨_, _, h⟩; exact h) (by kernel_rfl) (by kernel_rfl) (by kernel_rfl) ⟨by go_simp, by go_simp, by go_simp, by go_simp⟩ ?_
    simp only [List.take_succ_cons, List.take_zero, List.drop_succ_cons, List.drop_zero]
    refine head_pure ?_ (fun _ _ _ h => h) (Or.inl ⟨by rfl, ?_⟩) ?_
    rotate_left
    · intro w; go_simp; first | done | with_reducible rfl
    simp only [Act.put, List.setIfInBounds_toArray, List.set_cons_zero, List.set_cons_succ]
    refine head_read ?_ (by kernel_rfl) (fun _ _ _ h => h) (Or.inl ⟨by rfl, ?_⟩) ?_
    rotate_left
    · intro w hS; (try dsimp only at hS); go_simp; first | done | with_reducible rfl
    simp only [Act.put, List.setIfInBounds_toArray, List.set_cons_zero, List.set_cons_succ]
    refine head_pure ?_ (fun _ _ _ h => h) (Or.inl ⟨by rfl, ?_⟩) ?_
    rotate_left
    · intro w; go_simp; first | done | with_reducible rfl
    simp only [Act.put, List.setIfInBounds_toArray, List.set_cons_zero, List.set_cons_succ]
    refine head_pure ?_ (fun _ _ _ h => h) (Or.inl ⟨by rfl, ?_⟩) ?_
    rotate_left
    · intro w; go_simp; first | done | with_reducible rfl
    simp only [Act.put, List.setIfInBounds_toArray, List.set_cons_zero, List.set_cons_succ]
    refine head_read ?_ (by kernel_rfl) (fun _ _ _ h => h) (Or.inl ⟨by rfl, ?_⟩) ?_
    rotate_left
    · intro w hS; (try dsimp only at hS); go_simp; first | done | with_reducible rfl
    simp only [Act.put, List.setIfInBounds_toArray, List.set_cons_zero, List.set_cons_succ]
    refine head_pure ?_ (fun _ _ _ h => h) (Or.inl ⟨by rfl, ?_⟩) ?_
    rotate_left
    · intro w; go_simp; first | done | with_reducible rfl
    simp only [Act.put, List.setIfInBounds_toArray, List.set_cons_zero, List.set_cons_succ]
    refine head_pure ?_ (fun _ _ _ h => h) (Or.inl ⟨by rfl, ?_⟩) ?_
    rotate_left
    · intro w; go_simp; first | done | with_reducible rfl
    simp only [Act.put, List.setIfInBounds_toArray, List.set_cons_zero, List.set_cons_succ]
    refine head_read ?_ (by kernel_rfl) (fun _ _ _ h => h) (Or.inl ⟨by rfl, ?_⟩) ?_
    rotate_left
    · intro w hS; (try dsimp only at hS); go_simp; first | done | with_reducible rfl
    simp only [Act.put, List.setIfInBounds_toArray, List.set_cons_zero, List.set_cons_succ]
    refine head_read ?_ (by kernel_rfl) (fun _ _ _ h => h) (Or.inl ⟨by rfl, ?_⟩) ?_
    rotate_left
    · intro w hS; (try dsimp only at hS); go_simp; first | done | with_reducible rfl
    simp only [Act.put, List.setIfInBounds_toArray, List.set_cons_zero, List.set_cons_succ]
    refine head_pure ?_ (fun _ _ _ h => h) (Or.inl ⟨by rfl, ?_⟩) ?_
    rotate_left
    · intro w; go_simp; first | done | with_reducible rfl
    simp only [Act.put, List.setIfInBounds_toArray, List.set_cons_zero, List.set_cons_succ]
    refine head_pure ?_ (fun _ _ _ h => h) (Or.inl ⟨by rfl, ?_⟩) ?_
    rotate_left
    · intro w; go_simp; first | done | with_reducible rfl
    simp only [Act.put, List.setIfInBounds_toArray, List.set_cons_zero, List.set_cons_succ]
    refine head_pure ?_ (fun _ _ _ h => h) (Or.inl ⟨by rfl, ?_⟩) ?_
    rotate_left
    · intro w; go_simp; first | done | with_reducible rfl
    simp only [Act.put, List.setIfInBounds_toArray, List.set_cons_zero, List.set_cons_succ]
    refine head_pure ?_ (fun _ _ _ h => h) (Or.inl ⟨by rfl, ?_⟩) ?_
    rotate_left
    · intro w; go_simp; first | done | with_reducible rfl
    simp only [Act.put, List.setIfInBounds_toArray, List.set_cons_zero, List.set_cons_succ]
    refine head_pure ?_ (fun _ _ _ h => h) (Or.inl ⟨by rfl, ?_⟩) ?_
    rotate_left
    · intro w; go_simp; first | done | with_reducible rfl
    simp only [Act.put, List.setIfInBounds_toArray, List.set_cons_zero, List.set_cons_succ]
    change wpList _ _ _ _ _ _
    go_wp2
    have hcc := hC (limb x A) (limb x B) (chSt S C A B pre).2 (limb_u64 _ _) (limb_u64 _ _) hc01.1 hc01.2
    refine ⟨((KeepsOthers.setCell _ _ _).trans (KeepsOthers.setCell _ _ _)).trans (KeepsOthers.drew _), (((Below.refl _ W).setCell (p := ⟨w.heap.size + 1 + 1 + 1 + 1, x, none⟩) (by simp; omega) _).setCell (p := ⟨w.heap.size + 1 + 1 + 1 + 1 + 1, 0, none⟩) (by simp; omega) _).drew, ⟨?_, ?_, ?_, ?_, ?_, ?_, ?_, ?_⟩,
      ((hBel.setCell (p := ⟨w.heap.size + 1 + 1 + 1 + 1, x, none⟩) (by simp; omega) _).setCell (p := ⟨w.heap.size + 1 + 1 + 1 + 1 + 1, 0, none⟩) (by simp; omega) _).drew⟩
    · intro i hi; have h := HA.out i hi; go_simp
    · intro i hi; have h := HB.out i hi; go_simp
    · go_simp
    · intro i hi; obtain ⟨h, k⟩ := HR.out i hi; exact ⟨by go_simp, by go_simp⟩
    · intro i hi
      obtain ⟨h, k⟩ := HO.out i hi
      rw [chSt_snoc]
      by_cases e : i = x
      · subst e
        refine ⟨?_, by go_simp⟩
        simp only [if_true]
        go_simp
      · refine ⟨?_, by go_simp⟩
        simp only [if_neg e]
        have e' : ¬ x = i := fun h => e h.symm
        go_simp
    · rw [chSt_snoc]; go_simp
    · go_simp
    · rw [chSt_snoc]; exact hcc
  case done =>
    rintro D ys W hD rfl ⟨⟨hA, hB, hF, hR, hO, hc, hcf, hc01⟩, hBel⟩ hK
    clear hrun hC
    obtain ⟨o0, _⟩ := hO 0 (by omega)
    obtain ⟨o1, _⟩ := hO 1 (by omega)
    obtain ⟨o2, _⟩ := hO 2 (by omega)
    obtain ⟨o3, _⟩ := hO 3 (by omega)
    obtain ⟨r0, s0⟩ := hR 0 (by omega)
    obtain ⟨r1, s1⟩ := hR 1 (by omega)
    obtain ⟨r2, s2⟩ := hR 2 (by omega)
    obtain ⟨r3, s3⟩ := hR 3 (by omega)
    clear hA hB hR hO
    gi_wp2
    gi_region
    all_goals gi_wp2
    all_goals
      have hK' : (((((W.setCell ⟨w.heap.size + 1 + 1 + 1, 0, none⟩ (.int .u64 ((chSt S C A B (fourth 4)).1 0))).setCell ⟨w.heap.size + 1 + 1 + 1, 1, none⟩ (.int .u64 ((chSt S C A B (fourth 4)).1 1))).setCell ⟨w.heap.size + 1 + 1 + 1, 2, none⟩ (.int .u64 ((chSt S C A B (fourth 4)).1 2))).setCell ⟨w.heap.size + 1 + 1 + 1, 3, none⟩ (.int .u64 ((chSt S C A B (fourth 4)).1 3))).drew).heap[D]? = some (.deferred (some [])) := (((((KeepsOthers.setCell _ _ _).trans (KeepsOthers.setCell _ _ _)).trans (KeepsOthers.setCell _ _ _)).trans (KeepsOthers.setCell _ _ _)).trans (KeepsOthers.drew _)).same D _ hK rfl
      have q0 : (((((W.setCell ⟨w.heap.size + 1 + 1 + 1, 0, none⟩ (.int .u64 ((chSt S C A B (fourth 4)).1 0))).setCell ⟨w.heap.size + 1 + 1 + 1, 1, none⟩ (.int .u64 ((chSt S C A B (fourth 4)).1 1))).setCell ⟨w.heap.size + 1 + 1 + 1, 2, none⟩ (.int .u64 ((chSt S C A B (fourth 4)).1 2))).setCell ⟨w.heap.size + 1 + 1 + 1, 3, none⟩ (.int .u64 ((chSt S C A B (fourth 4)).1 3))).drew).cell? ⟨w.heap.size + 1 + 1 + 1, 0, none⟩ = some (.int .u64 ((chSt S C A B (fourth 4)).1 0)) := by go_simp
      have q1 : (((((W.setCell ⟨w.heap.size + 1 + 1 + 1, 0, none⟩ (.int .u64 ((chSt S C A B (fourth 4)).1 0))).setCell ⟨w.heap.size + 1 + 1 + 1, 1, none⟩ (.int .u64 ((chSt S C A B (fourth 4)).1 1))).setCell ⟨w.heap.size + 1 + 1 + 1, 2, none⟩ (.int .u64 ((chSt S C A B (fourth 4)).1 2))).setCell ⟨w.heap.size + 1 + 1 + 1, 3, none⟩ (.int .u64 ((chSt S C A B (fourth 4)).1 3))).drew).cell? ⟨w.heap.size + 1 + 1 + 1, 1, none⟩ = some (.int .u64 ((chSt S C A B (fourth 4)).1 1)) := by go_simp
      have q2 : (((((W.setCell ⟨w.heap.size + 1 + 1 + 1, 0, none⟩ (.int .u64 ((chSt S C A B (fourth 4)).1 0))).setCell ⟨w.heap.size + 1 + 1 + 1, 1, none⟩ (.int .u64 ((chSt S C A B (fourth 4)).1 1))).setCell ⟨w.heap.size + 1 + 1 + 1, 2, none⟩ (.int .u64 ((chSt S C A B (fourth 4)).1 2))).setCell ⟨w.heap.size + 1 + 1 + 1, 3, none⟩ (.int .u64 ((chSt S C A B (fourth 4)).1 3))).drew).cell? ⟨w.heap.size + 1 + 1 + 1, 2, none⟩ = some (.int .u64 ((chSt S C A B (fourth 4)).1 2)) := by go_simp
      have q3 : (((((W.setCell ⟨w.heap.size + 1 + 1 + 1, 0, none⟩ (.int .u64 ((chSt S C A B (fourth 4)).1 0))).setCell ⟨w.heap.size + 1 + 1 + 1, 1, none⟩ (.int .u64 ((chSt S C A B (fourth 4)).1 1))).setCell ⟨w.heap.size + 1 + 1 + 1, 2, none⟩ (.int .u64 ((chSt S C A B (fourth 4)).1 2))).setCell ⟨w.heap.size + 1 + 1 + 1, 3, none⟩ (.int .u64 ((chSt S C A B (fourth 4)).1 3))).drew).cell? ⟨w.heap.size + 1 + 1 + 1, 3, none⟩ = some (.int .u64 ((chSt S C A B (fourth 4)).1 3)) := by go_simp
      have hBX : Below w.heap.size w (((((W.setCell ⟨w.heap.size + 1 + 1 + 1, 0, none⟩ (.int .u64 ((chSt S C A B (fourth 4)).1 0))).setCell ⟨w.heap.size + 1 + 1 + 1, 1, none⟩ (.int .u64 ((chSt S C A B (fourth 4)).1 1))).setCell ⟨w.heap.size + 1 + 1 + 1, 2, none⟩ (.int .u64 ((chSt S C A B (fourth 4)).1 2))).setCell ⟨w.heap.size + 1 + 1 + 1, 3, none⟩ (.int .u64 ((chSt S C A B (fourth 4)).1 3))).drew) := ((((hBel.setCell (p := ⟨w.heap.size + 1 + 1 + 1, 0, none⟩) (by simp; omega) _).setCell (p := ⟨w.heap.size + 1 + 1 + 1, 1, none⟩) (by simp; omega) _).setCell (p := ⟨w.heap.size + 1 + 1 + 1, 2, none⟩) (by simp; omega) _).setCell (p := ⟨w.heap.size + 1 + 1 + 1, 3, none⟩) (by simp; omega) _).drew
      generalize (((((W.setCell ⟨w.heap.size + 1 + 1 + 1, 0, none⟩ (.int .u64 ((chSt S C A B (fourth 4)).1 0))).setCell ⟨w.heap.size + 1 + 1 + 1, 1, none⟩ (.int .u64 ((chSt S C A B (fourth 4)).1 1))).setCell ⟨w.heap.size + 1 + 1 + 1, 2, none⟩ (.int .u64 ((chSt S C A B (fourth 4)).1 2))).setCell ⟨w.heap.size + 1 + 1 + 1, 3, none⟩ (.int .u64 ((chSt S C A B (fourth 4)).1 3))).drew) = X at *
      refine ⟨by simp, .inl ⟨_, _, rfl, run_takeDeferred hK', ?_⟩⟩
      have k0 := cell_kept q0 (grownBy_putObj' _ D (.deferred none)) (fun r e => by cases e; exact ⟨_, hK', rfl⟩)
      have k1 := cell_kept q1 (grownBy_putObj' _ D (.deferred none)) (fun r e => by cases e; exact ⟨_, hK', rfl⟩)
      have k2 := cell_kept q2 (grownBy_putObj' _ D (.deferred none)) (fun r e => by cases e; exact ⟨_, hK', rfl⟩)
      have k3 := cell_kept q3 (grownBy_putObj' _ D (.deferred none)) (fun r e => by cases e; exact ⟨_, hK', rfl⟩)
      refine ⟨.tuple #[.agg #[.int .u64 ((chSt S C A B (fourth 4)).1 0), .int .u64 ((chSt S C A B (fourth 4)).1 1), .int .u64 ((chSt S C A B (fourth 4)).1 2), .int .u64 ((chSt S C A B (fourth 4)).1 3)], .bool ((chSt S C A B (fourth 4)).2 != 0)], ?_, rfl, hBX.trans (belowK_b (w := w) (Nat.le_refl _) _ D _ _ (by simp at hD; omega) hK' rfl rfl)⟩
      simp [results, Try.f64, go_sem, k0, k1, k2, k3]
  case stop =>
    rintro D c pre W _ _ h _
    exact h.elim
  case c0 => intro i hi; (rcases (by omega : i = 0 ∨ i = 1 ∨ i = 2 ∨ i = 3) with rfl | rfl | rfl | rfl) <;> go_simp
  case c1 => intro i hi; (rcases (by omega : i = 0 ∨ i = 1 ∨ i = 2 ∨ i = 3) with rfl | rfl | rfl | rfl) <;> go_simp
  case c2 => intro i hi; (rcases (by omega : i = 0 ∨ i = 1 ∨ i = 2 ∨ i = 3) with rfl | rfl | rfl | rfl) <;> exact ⟨by go_simp, by go_simp⟩
  case c3 => intro i hi; (rcases (by omega : i = 0 ∨ i = 1 ∨ i = 2 ∨ i = 3) with rfl | rfl | rfl | rfl) <;> exact ⟨by unfold chSt; go_simp, by go_simp⟩
  case c4 => unfold chSt; go_simp
  case cB => refine Kept.below ?_; repeat (first | with_reducible exact Kept.refl _ | with_reducible refine Kept.alloc ?_ _ | with_reducible refine Kept.setCell ?_ (by simp; try omega) _)
end Go.Proofs.Ythpmbfdbknikcaa
