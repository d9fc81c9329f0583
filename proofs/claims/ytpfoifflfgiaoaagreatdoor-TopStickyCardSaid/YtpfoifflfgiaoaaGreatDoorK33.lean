/- hairsbreadthtop.TopSticky: the walk. -/
import Derived.Test.YtpfoifflfgiaoaaGreatDoorK29
import Derived.Test.YtpfoifflfgiaoaaGreatDoorK01
import Derived.Test.YtpfoifflfgiaoaaGreatDoorK31
import Derived.Test.YtpfoifflfgiaoaaGreatDoorK32
set_option linter.unusedVariables false
set_option linter.unusedSimpArgs false
namespace Go.Proofs.YtpfoifflfgiaoaaGreatDoor
open Go Go.RowKit Go.MapKept

/-- May of an entry -/
theorem May_ent (n : Ent) (w : World) (hw : GOk G0 w.heap.size w) : Calls Tryz.prog 9 #[n.val] w fun e w' => (∃ b, e = .returned (.bool b) ∧ (b = true ↔ n.may)) ∧ Below w.heap.size w w' := by
  by_cases h : n.op = 12
  · have h12 : EntR 12 n.f n.to n.m n.ti n.a1 n.a0 n.b1 n.b0 n.c1 n.c0 := by rw [← h]; exact n.ok
    have := May12 h12 w
    unfold Ent.val Ent.may
    rw [h]
    exact this
  · obtain ⟨b, h1, h2⟩ := may_but n.ok h
    exact (h1 e0 w hw).mono fun e w' ⟨h3, h4⟩ => ⟨⟨b, h3, h2⟩, h4⟩
/-- May of an entry of which the outcome is known -/
theorem May_known (n : Ent) (w : World) (hw : GOk G0 w.heap.size w) : Calls Tryz.prog 9 #[n.val] w fun e w' => e = .returned (.bool (n.out.E == 0)) ∧ Below w.heap.size w w' :=
  (May_ent n w hw).mono fun e w' ⟨⟨b, h1, h2⟩, h3⟩ => ⟨by
    rw [h1]
    congr 2
    rcases n.spec.2.2.2.2 with ⟨h4, h5⟩ | ⟨h4, h5, _⟩
    · rw [h2.2 h5, h4]; rfl
    · have : b = false := by
        cases b with
        | false => rfl
        | true => exact absurd (h2.1 rfl) h5
      rw [this, h4]; rfl, h3⟩

theorem EntsAt.below {w w' : World} {b lo : Nat} {es : List Ent} (h : EntsAt w b lo es) (hb : Below w.heap.size w w') : EntsAt w' b lo es :=
  ⟨Nat.lt_of_lt_of_le h.1 hb.size, fun k n hn j v hv => (World.cell?_of_block (w := w) (hb.block b h.1)).trans (h.2 k n hn j v hv)⟩

set_option maxRecDepth 100000 in
set_option maxHeartbeats 8000000 in
theorem Top_some (es : List Ent) (h60 : es.length ≤ 60) (b lo c : Nat) (w : World) (hl : EntsAt w b lo es) (hG : GOk G0 w.heap.size w)
    (hwk : ∀ u, Below w.heap.size w u → Calls Tryz.prog 11 #[] u fun e w' => e = .returned (.bool true) ∧ Below u.heap.size u w') :
    Calls Tryz.prog 3 #[.slice (some ⟨b, lo, none⟩) es.length c] w fun e w' => e = .returned (.bool true) ∧ Below w.heap.size w w' := by
  have hl' := hl
  obtain ⟨hblt, hcell⟩ := hl
  go_enter Tryz.func3, Tryz.ntmps3
  go_wp2_with (first
    | (go_at_call 4; refine (New_any _).mono ?_; rintro e w' ⟨rfl, rfl⟩))
  go_loopw [4, 5] (fun v i wr => ∃ k : Nat, k ≤ es.length ∧ i = .int .i64 k ∧ v = .int .u8 (stk es k) ∧ wr.heap[w.heap.size]? = some (.cells #[.int .u8 (stk es k)] 46 (0, 0)) ∧ Below w.heap.size w wr)
    (fun _ i _ => es.length - (intOf i).toNat)
  case atStart => exact ⟨0, Nat.zero_le _, rfl, rfl, heap_new _ _, (Below.refl _ w).alloc (Nat.le_refl _) _⟩
  case round =>
    obtain ⟨k, hk, rfl, rfl, hm, hbel⟩ := hrel
    by_cases hlt : k < es.length
    · have hn := List.getElem?_eq_getElem hlt
      have hc : ∀ j v, es[k].cells[j]? = some v → wr.cell? ⟨b, lo + k * 11 + j, none⟩ = some v := fun j v hv => (World.cell?_of_block (w := w) (hbel.block b hblt)).trans (hcell k _ hn j v hv)
      have c0 : wr.cell? ⟨b, lo + k * 11, none⟩ = _ := hc 0 _ rfl
      have c1 := hc 1 _ rfl
      have c2 := hc 2 _ rfl
      have c3 := hc 3 _ rfl
      have c4 := hc 4 _ rfl
      have c5 := hc 5 _ rfl
      have c6 := hc 6 _ rfl
      have c7 := hc 7 _ rfl
      have c8 := hc 8 _ rfl
      have c9 := hc 9 _ rfl
      have c10 := hc 10 _ rfl
      clear hc hcell
      have hzr : w.heap.size < wr.heap.size := (Array.getElem?_eq_some_iff.1 hm).1
      have hbr : b < wr.heap.size := by omega
      have hsucc := stk_succ hlt
      generalize es[k] = n at *
      go_wp2_with (first
        | (go_at_call 5; refine (Run_ent n _ (hG.below hbel (by omega))).mono ?_; rintro e w1 ⟨he, hb1⟩; obtain rfl : e = .returned (.agg #[.int .i64 n.out.E, .int .u64 n.out.x, .int .u64 n.out.y, .int .u8 n.out.z]) := he; obtain ⟨r1, r2, r3, r4, r5⟩ := bcell hb1; have hz1 := hb1.size)        )
      generalize hE : n.out.E = E0 at *
      generalize hx : n.out.x = x0 at *
      generalize hy : n.out.y = y0 at *
      generalize hz : n.out.z = z0 at *
      have hm1 : w1.heap[w.heap.size]? = some (.cells #[.int .u8 (stk es k)] 46 (0, 0)) := (hb1.block _ hzr).trans hm
      have hbel1 : Below w.heap.size w w1 := hbel.trans (hb1.mono (by omega))
      have hm2 := (Below.heap_alloc w1 (.cells #[.int .i64 E0, .int .u64 x0, .int .u64 y0, .int .u8 z0] 31) w.heap.size (by omega)).trans hm1
      have hbel2 := hbel1.alloc (by omega : w.heap.size ≤ w1.heap.size) (.cells #[.int .i64 E0, .int .u64 x0, .int .u64 y0, .int .u8 z0] 31)
      have h62 := heap_new w1 (.cells #[.int .i64 E0, .int .u64 x0, .int .u64 y0, .int .u8 z0] 31)
      have hG2 := hG.stay hbel2
      refine (Do_any n (stk_range es k) _ hm2 hG2).mono ?_
      rintro e w3 ⟨he, hm3, hs3⟩
      obtain rfl : e = .returned (.agg #[.int .i64 E0, .int .u64 x0, .int .u64 y0, .int .u8 z0]) := by rw [he, ← hE, ← hx, ← hy, ← hz]; rfl
      have hz3 := hs3.size
      simp only [World.size_alloc] at hz3
      have hbel3 : Below w.heap.size w w3 := below_save hbel2 hs3 (by simp only [World.size_alloc]; omega) (Nat.le_refl _)
      have h63 : w3.heap[w1.heap.size]? = _ := (hs3.block w1.heap.size (by simp only [World.size_alloc]; omega) (by omega)).trans h62
      have hz31 : w1.heap.size < w3.heap.size := by omega
      have hz30 : w.heap.size < w3.heap.size := by omega
      rw [hz] at hm3
      have h632 : w3.cell? ⟨w1.heap.size, 3, none⟩ = some (.int .u8 z0) := by rw [cell_heap h63]; simp
      clear he
      go_wp2_with (first
        | (go_at_call 7; refine (Join_any _ _ (stk es k) z0 _ ?c0 ?c1).mono ?_; (case c0 => go_simp); (case c1 => go_simp); rintro e w5 ⟨rfl, hb5⟩))
      simp only [World.size_alloc] at hb5
      have hz5 := hb5.size
      simp only [World.size_alloc] at hz5
      have hbel5 : Below w.heap.size w w5 := ((hbel3.alloc (by omega : w.heap.size ≤ w3.heap.size) _).alloc (by simp only [World.size_alloc]; omega) _).trans (hb5.mono (by omega))
      have hm5 : w5.heap[w.heap.size]? = some (.cells #[.int .u8 (joinI (stk es k) z0)] 46 (0, 0)) := by
        rw [hb5.block _ (by omega), Below.heap_alloc _ _ _ (by simp only [World.size_alloc]; omega), Below.heap_alloc _ _ _ (by omega), hm3]
      have h65 : w5.heap[w1.heap.size]? = some (.cells #[.int .i64 E0, .int .u64 x0, .int .u64 y0, .int .u8 z0] 31 (0, 0)) := by
        rw [hb5.block _ (by omega), Below.heap_alloc _ _ _ (by simp only [World.size_alloc]; omega), Below.heap_alloc _ _ _ (by omega), h63]
      have h75 : w5.heap[w3.heap.size]? = some (.cells #[.int .i64 E0, .int .u64 x0, .int .u64 y0, .int .u8 z0] 31 (0, 0)) := by
        rw [hb5.block _ (by omega), Below.heap_alloc _ _ _ (by simp only [World.size_alloc]; omega), heap_new]
      have hbb : w5.heap[b]? = wr.heap[b]? := by
        rw [hb5.block _ (by omega), Below.heap_alloc _ _ _ (by simp only [World.size_alloc]; omega), Below.heap_alloc _ _ _ (by omega), hs3.block _ (by simp only [World.size_alloc]; omega) (by omega), Below.heap_alloc _ _ _ (by omega), hb1.block _ hbr]
      have hcc : ∀ o, w5.cell? ⟨b, o, none⟩ = wr.cell? ⟨b, o, none⟩ := fun o => World.cell?_of_block (w := wr) hbb
      simp only [← hcc] at c0 c1 c2 c3 c4 c5 c6 c7 c8 c9 c10
      have m0 : w5.cell? ⟨w.heap.size, 0, none⟩ = some (.int .u8 (joinI (stk es k) z0)) := by rw [cell_heap hm5]; rfl
      have a0 : w5.cell? ⟨w1.heap.size, 0, none⟩ = some (.int .i64 E0) := by rw [cell_heap h65]; rfl
      have a1 : w5.cell? ⟨w1.heap.size, 1, none⟩ = some (.int .u64 x0) := by rw [cell_heap h65]; rfl
      have a2 : w5.cell? ⟨w1.heap.size, 2, none⟩ = some (.int .u64 y0) := by rw [cell_heap h65]; rfl
      have a3 : w5.cell? ⟨w1.heap.size, 3, none⟩ = some (.int .u8 z0) := by rw [cell_heap h65]; rfl
      have b0 : w5.cell? ⟨w3.heap.size, 0, none⟩ = some (.int .i64 E0) := by rw [cell_heap h75]; rfl
      have b1 : w5.cell? ⟨w3.heap.size, 1, none⟩ = some (.int .u64 x0) := by rw [cell_heap h75]; rfl
      have b2 : w5.cell? ⟨w3.heap.size, 2, none⟩ = some (.int .u64 y0) := by rw [cell_heap h75]; rfl
      have b3 : w5.cell? ⟨w3.heap.size, 3, none⟩ = some (.int .u8 z0) := by rw [cell_heap h75]; rfl
      have l0 : w.heap.size < w5.heap.size := by omega
      have l1 : w1.heap.size < w5.heap.size := by omega
      have l3 : w3.heap.size < w5.heap.size := by omega
      have lb : b < w5.heap.size := by omega
      have hMay := fun (u : World) (hu : Below w5.heap.size w5 u) => May_known n u (hG.below (hbel5.trans (hu.mono (by omega))) (by have := hu.size; omega))
      rw [hE] at hMay
      have hSti := fun (u : World) (hu : Below w5.heap.size w5 u) => (Sticky_any (s := joinI (stk es k) z0) (b := w.heap.size) u ((hu.cell (p := ⟨w.heap.size, 0, none⟩) l0).trans m0)).mono (fun (e : Ending) (w' : World) (h : e = .returned (.int .u8 (joinI (stk es k) z0)) ∧ u = w') => (⟨h.1, h.2 ▸ Below.refl _ _⟩ : e = .returned (.int .u8 (joinI (stk es k) z0)) ∧ Below u.heap.size u w'))
      have hsp := n.spec.2.2.2.2
      rw [hE, hx, hy, hz] at hsp
      clear hcc hbb h65 h75 h632 h63 hm3 hs3 hb5 hbel3 hG2 h62 hbel2 hm2 hbel1 hm1 r1 r2 r3 r4 r5 hb1 hm hbel
      rcases hsp with ⟨rfl, _⟩ | ⟨rfl, _, rfl, rfl, rfl⟩
      · refine wp_region_uni 30 (fun u => Below w5.heap.size w5 u) w5.heap.size (fun _ => #[]) (by kernel_rfl) (by kernel_rfl) (fun a b h k => h.trans (k.mono h.size)) (fun _ h => h.size) (Below.refl _ _).drew ?_
        simp only [List.take_succ_cons, List.take_zero, List.drop_succ_cons, List.drop_zero]
        iterate 5 (refine hu_val ?_ (by rfl) (by rfl) ?_ ?_; rotate_left; (intro u hS; obtain ⟨r1, r2, r3, r4, r5⟩ := bcell hS; clear hS; go_simp; first | done | with_reducible rfl); simp only [Act.put, List.setIfInBounds_toArray, List.set_cons_zero, List.set_cons_succ])
        refine hu_call ?_ ?_ ?_ (by rfl) (by rfl) ?_ ?_ ?_
        rotate_left 3
        · intro u hS; clear hS; go_simp; first | done | with_reducible rfl | (constructor <;> with_reducible rfl)
        · exact hSti
        simp only [Act.put, List.setIfInBounds_toArray, List.set_cons_zero, List.set_cons_succ]
        iterate 11 (refine hu_val ?_ (by rfl) (by rfl) ?_ ?_; rotate_left; (intro u hS; obtain ⟨r1, r2, r3, r4, r5⟩ := bcell hS; clear hS; go_simp; first | done | with_reducible rfl); simp only [Act.put, List.setIfInBounds_toArray, List.set_cons_zero, List.set_cons_succ])
        refine hu_call ?_ ?_ ?_ (by rfl) (by rfl) ?_ ?_ ?_
        rotate_left 3
        · intro u hS; clear hS; go_simp; first | done | with_reducible rfl | (constructor <;> with_reducible rfl)
        · exact hMay
        simp only [Act.put, List.setIfInBounds_toArray, List.set_cons_zero, List.set_cons_succ]
        iterate 7 (refine hu_val ?_ (by rfl) (by rfl) ?_ ?_; rotate_left; (intro u hS; obtain ⟨r1, r2, r3, r4, r5⟩ := bcell hS; clear hS; go_simp; first | done | with_reducible rfl); simp only [Act.put, List.setIfInBounds_toArray, List.set_cons_zero, List.set_cons_succ])
        iterate 3 (refine hu_skip (by rfl) (by rfl) ?_; simp only [Act.put, List.setIfInBounds_toArray, List.set_cons_zero, List.set_cons_succ])
        iterate 2 (refine hu_val ?_ (by rfl) (by rfl) ?_ ?_; rotate_left; (intro u hS; obtain ⟨r1, r2, r3, r4, r5⟩ := bcell hS; clear hS; go_simp; first | done | with_reducible rfl); simp only [Act.put, List.setIfInBounds_toArray, List.set_cons_zero, List.set_cons_succ])
        intro w6 hS6 _
        change wpList _ _ _ _ _ _
        have hm6 : w6.heap[w.heap.size]? = some (.cells #[.int .u8 (stk es (k + 1))] 46 (0, 0)) := by rw [hS6.block _ l0, hm5, hsucc]
        have hb6 : Below w.heap.size w w6 := hbel5.trans (hS6.mono (by omega))
        clear hS6 hMay hSti
        go_wp2
        go_roundw
        case rel => exact ⟨k + 1, by omega, by simp, by rw [hsucc], hm6, hb6⟩
        case measure => simp [intOf]; omega
      · refine wp_region_uni 30 (fun u => Below w5.heap.size w5 u) w5.heap.size (fun _ => #[]) (by kernel_rfl) (by kernel_rfl) (fun a b h k => h.trans (k.mono h.size)) (fun _ h => h.size) (Below.refl _ _).drew ?_
        simp only [List.take_succ_cons, List.take_zero, List.drop_succ_cons, List.drop_zero]
        iterate 5 (refine hu_val ?_ (by rfl) (by rfl) ?_ ?_; rotate_left; (intro u hS; obtain ⟨r1, r2, r3, r4, r5⟩ := bcell hS; clear hS; go_simp; first | done | with_reducible rfl); simp only [Act.put, List.setIfInBounds_toArray, List.set_cons_zero, List.set_cons_succ])
        refine hu_call ?_ ?_ ?_ (by rfl) (by rfl) ?_ ?_ ?_
        rotate_left 3
        · intro u hS; clear hS; go_simp; first | done | with_reducible rfl | (constructor <;> with_reducible rfl)
        · exact hSti
        simp only [Act.put, List.setIfInBounds_toArray, List.set_cons_zero, List.set_cons_succ]
        iterate 11 (refine hu_val ?_ (by rfl) (by rfl) ?_ ?_; rotate_left; (intro u hS; obtain ⟨r1, r2, r3, r4, r5⟩ := bcell hS; clear hS; go_simp; first | done | with_reducible rfl); simp only [Act.put, List.setIfInBounds_toArray, List.set_cons_zero, List.set_cons_succ])
        refine hu_call ?_ ?_ ?_ (by rfl) (by rfl) ?_ ?_ ?_
        rotate_left 3
        · intro u hS; clear hS; go_simp; first | done | with_reducible rfl | (constructor <;> with_reducible rfl)
        · exact hMay
        simp only [Act.put, List.setIfInBounds_toArray, List.set_cons_zero, List.set_cons_succ]
        iterate 12 (refine hu_val ?_ (by rfl) (by rfl) ?_ ?_; rotate_left; (intro u hS; obtain ⟨r1, r2, r3, r4, r5⟩ := bcell hS; clear hS; go_simp; first | done | with_reducible rfl); simp only [Act.put, List.setIfInBounds_toArray, List.set_cons_zero, List.set_cons_succ])
        intro w6 hS6 _
        change wpList _ _ _ _ _ _
        have hm6 : w6.heap[w.heap.size]? = some (.cells #[.int .u8 (stk es (k + 1))] 46 (0, 0)) := by rw [hS6.block _ l0, hm5, hsucc]
        have hb6 : Below w.heap.size w w6 := hbel5.trans (hS6.mono (by omega))
        clear hS6 hMay hSti
        go_wp2
        go_roundw
        case rel => exact ⟨k + 1, by omega, by simp, by rw [hsucc], hm6, hb6⟩
        case measure => simp [intOf]; omega
    · have hkn : k = es.length := by omega
      subst hkn
      clear hcell hk hlt
      have hzr : w.heap.size < wr.heap.size := (Array.getElem?_eq_some_iff.1 hm).1
      have hlr : EntsAt wr b lo es := hl'.below hbel
      have hGr : GOk G0 wr.heap.size wr := hG.below hbel (by omega)
      go_wp2_with (first
        | (go_at_call 10; refine (All_some es h60 b lo c _ hlr hGr).mono ?_; rintro e w2 ⟨p, n, q, rfl, rfl, hb2⟩; have hb3 := hbel.trans (hb2.mono (by omega)))
        | (go_at_call 11; refine (hwk _ hb3).mono ?_; rintro e w4 ⟨rfl, hb4⟩; have hb5 := hb3.trans (hb4.mono hb3.size)))
      go_ret
      exact ⟨rfl, hb5⟩

set_option maxRecDepth 100000 in
set_option maxHeartbeats 8000000 in
theorem Top_none (a : Option Addr) (c : Nat) (w : World) (hG : GOk G0 w.heap.size w)
    (hwk : ∀ u, Below w.heap.size w u → Calls Tryz.prog 11 #[] u fun e w' => e = .returned (.bool true) ∧ Below u.heap.size u w') :
    Calls Tryz.prog 3 #[.slice a 0 c] w fun e w' => e = .returned (.bool true) ∧ Below w.heap.size w w' := by
  go_enter Tryz.func3, Tryz.ntmps3
  go_wp2_with (first
    | (go_at_call 4; refine (New_any _).mono ?_; rintro e w' ⟨rfl, rfl⟩))
  refine wp_loop_rounds 1 ?_
  rw [rounds_succ]
  have hb1 := (Below.refl w.heap.size w).alloc (Nat.le_refl _) (.cells #[.int .u8 0] 46)
  go_wp2_with (first
    | (go_at_call 10; refine (All_none a c _).mono ?_; rintro e w2 ⟨rfl, hb2⟩; have hb3 := hb1.trans (hb2.mono hb1.size))
    | (go_at_call 11; refine (hwk _ hb3).mono ?_; rintro e w4 ⟨rfl, hb4⟩; have hb5 := hb3.trans (hb4.mono hb3.size)))
  go_ret
  exact ⟨rfl, hb5⟩
set_option maxRecDepth 100000 in
set_option maxHeartbeats 8000000 in
theorem Top_long (a : Option Addr) (n c : Nat) (h60 : 60 < n) (w : World) :
    Calls Tryz.prog 3 #[.slice a n c] w fun e w' => e = .returned (.bool true) ∧ Below w.heap.size w w' := by
  have h : (60 : Int) < (n : Int) := by omega
  go_enter Tryz.func3, Tryz.ntmps3
  go_wp2
  go_ret
  exact ⟨rfl, Below.refl _ _⟩
end Go.Proofs.YtpfoifflfgiaoaaGreatDoor
