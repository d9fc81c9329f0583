/- Numbers as lists of digits: contracts; May: its parts. -/
import Derived.Test.YtpfoifflfgiaoaaGreatDoorK01
import Derived.Test.YtpfoifflfgiaoaaGreatDoorK07
import Derived.Laws.OwnMore
import Derived.Outline
import Derived.Deep.QuietTactic
import Derived.BigQuiet
import Derived.Deep.RegionHeld3
import Derived.LoopN
set_option linter.unusedVariables false
set_option linter.unusedSimpArgs false
namespace Go.Proofs.YtpfoifflfgiaoaaGreatDoor
open Go.RowKit

theorem infoU32 : (Tryz.prog.info? 135).map (fun i => (i.zero, i.size, i.bytes)) = some (some (.int .u32 0), 1, 4) := by kernel_rfl
theorem add_off (g j : Nat) : (⟨g, 0, none⟩ : Addr).add j = ⟨g, j, none⟩ := by
  unfold Addr.add
  by_cases h : j = 0
  · subst h; simp
  · simp [h]
/-- a slice of the call's own (its block is B or beyond) that reads as these digits -/
def OwnN (B : Nat) (w : World) (v : Value) (l : List Nat) : Prop := DigL l ∧ w.ownsRow B 135 1 v l.length (l.map dv)
theorem OwnN.nil (B : Nat) (w : World) : OwnN B w (.slice none 0 0) [] := ⟨DigL.nil, World.ownsRow_nil _ _ _ _⟩
theorem OwnN.alloc {B : Nat} {w : World} {v : Value} {l : List Nat} (h : OwnN B w v l) (o : Obj) : OwnN B (w.alloc o) v l := ⟨h.1, h.2.alloc o⟩
theorem OwnN.call {B : Nat} {w w' : World} {v : Value} {l : List Nat} (h : OwnN B w v l) (hb : Below w.heap.size w w') : OwnN B w' v l :=
  ⟨h.1, h.2.kept (row := none) ⟨hb.os, hb.tape, hb.output, hb.size, fun k hk _ => hb.block k hk⟩ (by cases h' : v.ownBlock <;> simp)⟩
theorem OwnN.drew {B : Nat} {w : World} {v : Value} {l : List Nat} (h : OwnN B w v l) : OwnN B w.drew v l := h.call ((Below.refl _ _).drew)
theorem OwnN.reads {B : Nat} {w : World} {v : Value} {l : List Nat} (h : OwnN B w v l) : IsL w v l := by
  obtain ⟨hd, hown⟩ := h
  obtain ⟨hlen, h1⟩ := hown
  have hown' : w.ownsRow B 135 1 v l.length (l.map dv) := ⟨hlen, h1⟩
  rcases h1 with ⟨rfl, h0⟩ | ⟨g, cap, cur, rfl, hB, hg, hcap, hm, hsz, htake⟩
  · exact ⟨hd, none, 0, by rw [h0], by omega, fun h => absurd h (by omega)⟩
  · refine ⟨hd, _, cap, rfl, hcap, fun _ => ⟨g, 0, rfl, (Array.getElem?_eq_some_iff.1 hg).1, fun j d hj => ?_⟩⟩
    have := hown'.cells (g := g) rfl j (dv d) (by rw [List.getElem?_map, hj]; rfl)
    rw [add_off] at this
    rw [Nat.zero_add]
    exact this
theorem below_grown {B : Nat} {w w' : World} {row : Option Nat} (hg : w.grownBy w' row) (hB : B ≤ w.heap.size) (hr : ∀ k, row = some k → B ≤ k) : Below B w w' :=
  ⟨hg.os, hg.tape, hg.output, hg.size, fun k hk => hg.block k (by omega) (fun e => by have := hr k e.symm; omega)⟩
theorem OwnN.old {B : Nat} {w : World} {v : Value} {l : List Nat} (h : OwnN B w v l) : ∀ k, v.ownBlock = some k → B ≤ k := fun k hk => (h.2.lt k hk).1

section
variable {ops : Array Oper} {rest : List Oper} {o : Oper} {a : Act} {Q : Exit → Act → World → Prop} {w : World}
/-- append, of digits that lie in a block of their own -/
theorem app_any (hgd : o.guard = none) (s x : Operand) (ho : o.op = .call { callee := .builtin .append, args := #[s, x], argTypes := #[69, 69] })
    (B : Nat) {v : Value} {l : List Nat} (hs : a.eval s = v) (hown : OwnN B w v l) (b : Nat) (m : List Nat) (n : Nat) (hn : n = m.length) (hx : a.eval x = .slice (some ⟨b, 0, none⟩) n n) (hm : DigL m)
    (hcell : ∀ j d, m[j]? = some d → w.cell? ⟨b, j, none⟩ = some (dv d)) (hlen : l.length + m.length ≤ 1000000) (hB : B ≤ w.heap.size)
    (h : ∀ v' w', OwnN B w' v' (l ++ m) → Below B w w' → wpList Tryz.prog ops Q rest (a.put o.dst v') w') : wpList Tryz.prog ops Q (o :: rest) a w := by
  obtain ⟨i0, hi, hz0, hz1, hz2⟩ := info_parts infoU32
  subst hn
  refine wpList_append_own w hgd s x 69 ho B 135 i0 (.int .u32 0) 1 4 Tryz.underlying69 hi hz0 hz1 hz2 rfl (by decide) v l.length (l.map dv) hs hown.2 ⟨b, 0, none⟩ m.length m.length (m.map dv) hx (by simp) ?_ ?_ ?_ ?_ hB ?_
  · intro j u hj
    rw [List.getElem?_map] at hj
    cases hm2 : m[j]? with
    | none => rw [hm2] at hj; cases hj
    | some d => rw [hm2] at hj; cases hj; rw [add_off]; exact hcell j d hm2
  · intro u hu
    obtain ⟨d, _, rfl⟩ := List.mem_map.1 hu
    rfl
  · unfold maxLen; omega
  · omega
  · intro v' w' h1 h2 _
    refine h v' w' ⟨fun d hd => ?_, ?_⟩ (below_grown h2 hB hown.old)
    · rcases List.mem_append.1 hd with k | k
      · exact hown.1 d k
      · exact hm d k
    · rw [List.length_append, List.map_append]; exact h1
theorem app_one (hgd : o.guard = none) (s x : Operand) (ho : o.op = .call { callee := .builtin .append, args := #[s, x], argTypes := #[69, 69] })
    (B : Nat) {v : Value} {l : List Nat} (hs : a.eval s = v) (hown : OwnN B w v l) (b : Nat) (d : Nat) (hx : a.eval x = .slice (some ⟨b, 0, none⟩) 1 1) (hd : d < 2 ^ 32)
    (hcell : w.cell? ⟨b, 0, none⟩ = some (dv d)) (hlen : l.length ≤ 100000) (hB : B ≤ w.heap.size)
    (h : ∀ v' w', OwnN B w' v' (l ++ [d]) → Below B w w' → wpList Tryz.prog ops Q rest (a.put o.dst v') w') : wpList Tryz.prog ops Q (o :: rest) a w :=
  app_any hgd s x ho B hs hown b [d] 1 rfl hx (fun e he => by rw [List.mem_singleton.1 he]; exact hd)
    (fun j e hj => by
      match j, hj with
      | 0, hj => cases hj; exact hcell
      | j + 1, hj => cases hj) (by simp; omega) hB h
/-- make, of so many noughts -/
theorem make_any (hg : o.guard = none) (l c : Operand) (hop : o.op = Op.makeSlice 69 l c) (B n : Nat) {L : Int} (hL : L = n) (hl : a.eval l = .int .i64 L) (hc : a.eval c = .int .i64 L) (hn : n ≤ 1000000) (hB : B ≤ w.heap.size)
    (h : ∀ w', OwnN B w' (.slice (some ⟨w.heap.size, 0, none⟩) n n) (List.replicate n 0) → Below w.heap.size w w' → wpList Tryz.prog ops Q rest (a.put o.dst (.slice (some ⟨w.heap.size, 0, none⟩) n n)) w') : wpList Tryz.prog ops Q (o :: rest) a w := by
  obtain ⟨i0, hi, hz0, hz1, hz2⟩ := info_parts infoU32
  refine wpList_make_full w hg l c 69 hop B 135 i0 (.int .u32 0) 1 Tryz.underlying69 hi hz0 hz1 .i64 .i64 L L n hl hc hL hL (by rw [hz2]; omega) (by unfold maxLen; omega) hB ?_
  intro w' h1 h2
  refine h w' ⟨DigL.zeros n, ?_⟩ (below_grown h2 (Nat.le_refl _) (fun k hk => by cases hk))
  rw [Nat.mul_one, show (Value.int IntKind.u32 0).cells = #[.int .u32 0] from rfl, toList_madeCells_one] at h1
  rw [List.length_replicate, List.map_replicate]
  exact h1
theorem OwnN.cell {B g n c : Nat} {l : List Nat} (h : OwnN B w (.slice (some ⟨g, 0, none⟩) n c) l) {j d : Nat} (hj : l[j]? = some d) : w.cell? ⟨g, j, none⟩ = some (dv d) := by
  have := h.2.cells (g := g) rfl j (dv d) (by rw [List.getElem?_map, hj]; rfl)
  rw [add_off] at this; exact this
end
end Go.Proofs.YtpfoifflfgiaoaaGreatDoor
namespace Go.Proofs.YtpfoifflfgiaoaaGreatDoor
open Go.RowKit

theorem cell_new1 {wr : World} {T : TypeId} {v : Value} {d : Nat} (h : v = dv d) : (wr.alloc (.cells #[v] T)).cell? ⟨wr.heap.size, 0, none⟩ = some (dv d) := by subst h; simp
theorem int_u32 {x : Int} {d : Nat} (h : x = (d : Int)) : (.int .u32 x : Value) = dv d := by rw [h]; rfl
theorem int_u64 {x y : Int} (h : x = y) : (.int .u64 x : Value) = .int .u64 y := by rw [h]
end Go.Proofs.YtpfoifflfgiaoaaGreatDoor
namespace Go.Proofs.YtpfoifflfgiaoaaGreatDoor
open Go.RowKit

set_option maxRecDepth 100000 in
set_option maxHeartbeats 4000000 in
theorem refSub_any {x y : Value} {A B : Nat} (w : World) (hx : IsN w x A) (hy : IsN w y B) (la : lenN A ≤ 4096) (lb : lenN B ≤ 4096) (hle : B ≤ A) :
    Calls Tryz.prog 30 #[x, y] w fun e w' => ∃ v, e = .returned v ∧ IsN w' v (A - B) ∧ Below w.heap.size w w' := by
  have hx' := hx
  have hy' := hy
  obtain ⟨ax, cx, rfl, hcx, hrx⟩ := hx.open
  obtain ⟨ay, cy, rfl, hcy, hry⟩ := hy.open
  have HX := Lib.hid hx'
  have HY := Lib.hid hy'
  have HLE := Lib.hid hle
  clear hrx hry hx hy hx' hy' hcx hcy hle
  go_enter Tryz.func30, Tryz.ntmps30
  go_wp2
  go_loopw [5, 6, 7] (fun v c i wr => ∃ (k : Nat) (l : List Nat) (cc : Nat), k ≤ lenN A ∧ i = .int .i64 k ∧ c = .int .u64 cc ∧ cc ≤ 1 ∧ OwnN w.heap.size wr v l ∧ l.length = k ∧ Hid (valL l + B % 2 ^ (32 * k) = A % 2 ^ (32 * k) + cc * 2 ^ (32 * k)) ∧ Below w.heap.size w wr) (fun _ _ i _ => lenN A - (intOf i).toNat)
  case atStart => exact ⟨0, [], 0, by omega, rfl, rfl, by omega, OwnN.nil _ _, rfl, Lib.hid (by simp [valL, Nat.mod_one]), Below.refl _ _⟩
  case round =>
    obtain ⟨k, l, cc, hk, rfl, rfl, hcc, hown, hlen, HV, hbel⟩ := hrel
    have d0 := dig_lt k A
    have d1 := dig_lt k B
    have HO := Lib.hid hown
    have HB := Lib.hid hbel
    have HL := Lib.hid hlen
    clear hown hbel hlen
    by_cases h1 : k < lenN A
    · have q0 : (0 : Int) ≤ ((dig k A : Nat) : Int) + 4294967296 - ((dig k B : Nat) : Int) - (cc : Int) := by omega
      have q1 : ((dig k A : Nat) : Int) + 4294967296 - ((dig k B : Nat) : Int) - (cc : Int) ≤ 8589934592 := by omega
      go_wp2_with fail
      refine (digit_any k _ (HX.out.call HB.out) (by omega) (by omega)).mono ?_
      rintro e w' ⟨rfl, rfl⟩
      go_wp2_with fail
      refine (digit_any k _ (HY.out.call HB.out) (by omega) (by omega)).mono ?_
      rintro e w' ⟨rfl, rfl⟩
      go_wp2_with (at_builtin; refine app_one rfl (.tmp 27) (.tmp 30) rfl w.heap.size (by rfl) (HO.out.alloc _) wr.heap.size ((dig k A + 2 ^ 32 - dig k B - cc) % 2 ^ 32) (by rfl) (Nat.mod_lt _ (by decide)) (cell_new1 (int_u32 (by omega))) (by have := HL.out; omega) (by have := HB.out.size; simp; omega) ?_; intro v' w' hown' hb'; have HO' := Lib.hid hown'; have HB' := Lib.hid hb'; clear hown' hb')
      go_roundw
      case rel => exact ⟨k + 1, l ++ [(dig k A + 2 ^ 32 - dig k B - cc) % 2 ^ 32], 1 - (dig k A + 2 ^ 32 - dig k B - cc) / 2 ^ 32, by omega, by go_num, int_u64 (by omega), by omega, HO'.out, by simp [HL.out], Lib.hid (by rw [valL_snoc, HL.out]; exact dif_step32 hcc HV.out), (HB.out.alloc (HB.out.size) _).trans HB'.out⟩
      case measure => simp [intOf]; omega
    · have hkA : lenN A ≤ k := by omega
      have HS := Lib.hid (show valL l = A - B by
        have e := HV.out
        have hkB : lenN B ≤ k := Nat.le_trans (lenN_mono HLE.out) hkA
        rw [mod_len hkA, mod_len hkB] at e
        have h2 := valL_lt HO.out.1
        rw [HL.out] at h2
        have h3 := HLE.out
        have h4 := mod_len hkA
        have h5 : A < 2 ^ (32 * k) := by rw [← h4]; exact Nat.mod_lt _ (Nat.two_pow_pos _)
        have h6 : cc = 0 := by
          rcases (by omega : cc = 0 ∨ cc = 1) with h | h
          · exact h
          · subst h; omega
        subst h6; omega)
      go_wp2_with fail
      refine (Trim_any _ HO.out.reads (by simp [HL.out]; omega)).mono ?_
      rintro e w' ⟨v2, rfl, hN, rfl⟩
      go_wp2
      go_ret
      exact ⟨v2, rfl, by rw [HS.out] at hN; exact hN, HB.out⟩
end Go.Proofs.YtpfoifflfgiaoaaGreatDoor
namespace Go.Proofs.YtpfoifflfgiaoaaGreatDoor
open Go.RowKit

theorem below_drewN {B : Nat} {a w : World} (h : Below B a w) (n : Nat) : Below B a (w.drewN n) := ⟨h.os, h.tape, h.output, h.size, h.block⟩
end Go.Proofs.YtpfoifflfgiaoaaGreatDoor
namespace Go.Proofs.YtpfoifflfgiaoaaGreatDoor
open Go.RowKit

theorem or_shl {d s c : Nat} (hd : d < 2 ^ 32) (hs : s < 32) (hc : c < 2 ^ s) : bits .or .u64 (c : Int) (IntKind.u64.wrap ((d : Int) * 2 ^ s)) = ((d * 2 ^ s + c : Nat) : Int) := by
  obtain ⟨h1, h2⟩ := shl_carry hd hs hc
  have e : ((d : Int) * 2 ^ s) = ((d * 2 ^ s : Nat) : Int) := by rw [Int.natCast_mul, Int.natCast_pow]; rfl
  have hc2 : c < 2 ^ 64 := Nat.lt_of_lt_of_le hc (Nat.pow_le_pow_right (by omega) (by omega))
  rw [e, wrap_u64 (by omega) (by omega), or_u64 ⟨by omega, by omega⟩ ⟨by omega, by omega⟩, Int.toNat_natCast, Int.toNat_natCast, shl_or hc]
set_option maxRecDepth 100000 in
set_option maxHeartbeats 4000000 in
theorem refShl_any {v : Value} {A : Nat} {z : Int} (n : Nat) (hz : z = n) (hn : n ≤ 65536) (w : World) (h : IsN w v A) (hl : lenN A ≤ 4096) :
    Calls Tryz.prog 73 #[v, .int .i64 z] w fun e w' => ∃ u, e = .returned u ∧ IsN w' u (A * 2 ^ n) ∧ Below w.heap.size w w' := by
  obtain ⟨q, s, hs, rfl⟩ : ∃ q s : Nat, s < 32 ∧ n = 32 * q + s := ⟨n / 32, n % 32, by omega, by omega⟩
  have e1 : z / 32 = q := by omega
  have e2 : z % 32 = s := by omega
  have z0 : 0 ≤ z := by omega
  have z1 : z ≤ 65536 := by omega
  have hq : q ≤ 4096 := by omega
  clear hz hn
  have h' := h
  obtain ⟨ad, c0, rfl, hc0, hr⟩ := h.open
  have HX := Lib.hid h'
  clear hr h h' hc0
  have s1 : (s : Int) < 32 := by omega
  have s0 : (0 : Int) ≤ s := by omega
  go_enter Tryz.func73, Tryz.ntmps73
  go_wp2_with (at_make; refine make_any rfl (.tmp 9) (.tmp 9) rfl w.heap.size q e1 (by rfl) (by rfl) (by omega) (Nat.le_refl _) ?_; intro w1 hown hbel)
  go_loopw [5, 6, 7] (fun v c i wr => ∃ (k : Nat) (l : List Nat) (cc : Nat), k ≤ lenN A ∧ i = .int .i64 k ∧ c = .int .u64 cc ∧ cc < 2 ^ s ∧ OwnN w.heap.size wr v l ∧ l.length = q + k ∧ Hid (valL l + cc * 2 ^ (32 * (q + k)) = A % 2 ^ (32 * k) * 2 ^ (32 * q + s)) ∧ Below w.heap.size w wr) (fun _ _ i _ => lenN A - (intOf i).toNat)
  case atStart => exact ⟨0, _, 0, by omega, rfl, rfl, Nat.two_pow_pos _, hown, by simp, Lib.hid (by simp [valL_zeros, Nat.mod_one]), hbel⟩
  case round =>
    clear hown hbel
    obtain ⟨k, l, cc, hk, rfl, rfl, hcc, hown, hlen, HV, hbel⟩ := hrel
    have d0 := dig_lt k A
    have HO := Lib.hid hown
    have HB := Lib.hid hbel
    have HL := Lib.hid hlen
    clear hown hbel hlen
    by_cases h1 : k < lenN A
    · obtain ⟨ad', c0', ex, _, hrx⟩ := (HX.out.call HB.out).open
      cases ex
      obtain ⟨bx, ox, rfl, _, hcx⟩ := hrx (by omega)
      have ca := hcx k h1
      clear hcx hrx
      obtain ⟨X, hX⟩ : ∃ X, dig k A * 2 ^ s + cc = X := ⟨_, rfl⟩
      obtain ⟨x1, x2⟩ := shl_carry d0 hs hcc
      have eo := or_shl d0 hs hcc
      rw [hX] at eo x1 x2
      have HX2 := Lib.hid hX
      have HX3 := Lib.hid x2
      have hcc' := Lib.hid hcc
      have x3 : (X : Int) < 9223372036854775808 := by omega
      clear hX x2 x1 hcc
      go_wp2_with (at_builtin; refine app_one rfl (.tmp 27) (.tmp 30) rfl w.heap.size (by rfl) (HO.out.alloc _) wr.heap.size (X % 2 ^ 32) (by rfl) (Nat.mod_lt _ (by decide)) (cell_new1 (int_u32 (by omega))) (by have := HL.out; omega) (by have := HB.out.size; simp; omega) ?_; intro v' w' hown' hb'; have HO' := Lib.hid hown'; have HB' := Lib.hid hb'; clear hown' hb')
      go_roundw
      case rel => exact ⟨k + 1, l ++ [X % 2 ^ 32], X / 2 ^ 32, by omega, by go_num, int_u64 (by omega), HX3.out, HO'.out, by simp [HL.out]; omega, Lib.hid (by rw [valL_snoc, HL.out, ← HX2.out]; exact shl_step HV.out), (HB.out.alloc (HB.out.size) _).trans HB'.out⟩
      case measure => simp [intOf]; omega
    · have hkA : lenN A ≤ k := by omega
      have hcc2 : cc < 2 ^ 31 := Nat.lt_of_lt_of_le hcc (Nat.pow_le_pow_right (by omega) (by omega))
      have HS := Lib.hid (show valL (l ++ [cc]) = A * 2 ^ (32 * q + s) by rw [valL_snoc, HL.out, HV.out, mod_len hkA])
      have hcc3 : (cc : Int) < 2147483648 := by omega
      clear hcc hcc2
      go_wp2_with (at_builtin; refine app_one rfl (.tmp 34) (.tmp 37) rfl w.heap.size (by rfl) (HO.out.alloc _) wr.heap.size cc (by rfl) (by omega) (cell_new1 (int_u32 (by omega))) (by have := HL.out; omega) (by have := HB.out.size; simp; omega) ?_; intro v' w' hown' hb'; have HO' := Lib.hid hown'; have HB' := Lib.hid hb'; clear hown' hb')
      refine (Trim_any _ HO'.out.reads (by simp [HL.out]; omega)).mono ?_
      rintro e w' ⟨v2, rfl, hN, rfl⟩
      go_wp2
      go_ret
      exact ⟨v2, rfl, by rw [HS.out] at hN; exact hN, (HB.out.alloc (HB.out.size) _).trans HB'.out⟩
end Go.Proofs.YtpfoifflfgiaoaaGreatDoor
namespace Go.Proofs.YtpfoifflfgiaoaaGreatDoor
open Go.RowKit

theorem digit_z {v : Value} {A : Nat} {z : Int} (i : Nat) (hz : z = i) (w : World) (h : IsN w v A) (hl : lenN A ≤ 65536) (hi : i ≤ 1000000) :
    Calls Tryz.prog 76 #[v, .int .i64 z] w fun e w' => e = .returned (.int .u32 (dig i A : Nat)) ∧ w' = w := by
  subst hz; exact (digit_any i w h hl hi).mono fun _ _ h => ⟨h.1, h.2.symm⟩
theorem or_shr {a b : Nat} (ha : a < 2 ^ 32) (hb : b < 2 ^ 32) : bits .or .u64 (a : Int) ((b : Int) * 4294967296) = ((a + b * 2 ^ 32 : Nat) : Int) ∧ IntKind.u64.wrap ((b : Int) * 4294967296) = (b : Int) * 4294967296 := by
  have e : ((b : Int) * 4294967296) = ((b * 2 ^ 32 : Nat) : Int) := by omega
  refine ⟨?_, by rw [wrap_u64 (by omega) (by omega)]⟩
  rw [e, or_u64 ⟨by omega, by omega⟩ ⟨by omega, by omega⟩, Int.toNat_natCast, Int.toNat_natCast, shr_or a b ha]
set_option maxRecDepth 100000 in
set_option maxHeartbeats 4000000 in
theorem refShr_any {v : Value} {A : Nat} {z : Int} (n : Nat) (hz : z = n) (hn : n ≤ 65536) (w : World) (h : IsN w v A) (hl : lenN A ≤ 4096) :
    Calls Tryz.prog 74 #[v, .int .i64 z] w fun e w' => ∃ u, e = .returned u ∧ IsN w' u (A / 2 ^ n) ∧ Below w.heap.size w w' := by
  obtain ⟨q, s, hs, rfl⟩ : ∃ q s : Nat, s < 32 ∧ n = 32 * q + s := ⟨n / 32, n % 32, by omega, by omega⟩
  have e1 : z / 32 = q := by omega
  have e2 : z % 32 = s := by omega
  have z0 : 0 ≤ z := by omega
  have z1 : z ≤ 65536 := by omega
  have hq : q ≤ 4096 := by omega
  have E1 := Lib.hid e1
  clear hz hn
  have h' := h
  obtain ⟨ad, c0, rfl, hc0, hr⟩ := h.open
  have HX := Lib.hid h'
  clear hr h h' hc0
  have s1 : (s : Int) < 32 := by omega
  have s0 : (0 : Int) ≤ s := by omega
  go_enter Tryz.func74, Tryz.ntmps74
  go_wp2
  go_loopw [5, 6] (fun v i wr => ∃ (j : Nat) (x : Int), j ≤ lenN A - q ∧ i = .int .i64 x ∧ x = ((q + j : Nat) : Int) ∧ OwnN w.heap.size wr v (digsTo (A / 2 ^ (32 * q + s)) j) ∧ Below w.heap.size w wr) (fun _ i _ => lenN A - (intOf i).toNat)
  case atStart => exact ⟨0, _, by omega, rfl, by omega, OwnN.nil _ _, Below.refl _ _⟩
  case round =>
    clear e1
    obtain ⟨j, x, hj, rfl, hx, hown, hbel⟩ := hrel
    have HXE := Lib.hid hx
    have x0 : 0 ≤ x := by omega
    have x9 : x ≤ 10000 := by omega
    have HO := Lib.hid hown
    have HB := Lib.hid hbel
    by_cases h1 : x < lenN A
    · have hj1 : q + j < lenN A := by omega
      obtain ⟨ad', c0', ex, _, hrx⟩ := (HX.out.call HB.out).open
      cases ex
      obtain ⟨bx, ox, rfl, _, hcx⟩ := hrx (by omega)
      have ca := hcx (q + j) hj1
      obtain ⟨xn, hxn⟩ : ∃ xn : Nat, x = xn := ⟨q + j, hx⟩
      subst hxn
      obtain rfl : xn = q + j := by omega
      clear hcx hrx hx hown hbel
      have d0 := dig_lt (q + j) A
      have d1 := dig_lt (q + j + 1) A
      obtain ⟨eo, ew⟩ := or_shr d0 d1
      obtain ⟨X, hX⟩ : ∃ X, dig (q + j) A + dig (q + j + 1) A * 2 ^ 32 = X := ⟨_, rfl⟩
      rw [hX] at eo
      have hX64 : (X : Int) < 18446744073709551616 := by omega
      obtain ⟨Y, hY⟩ : ∃ Y : Nat, X / 2 ^ s = Y := ⟨_, rfl⟩
      have es : ((X : Int) / 2 ^ s) = (Y : Int) := by rw [← hY, Int.natCast_ediv, Int.natCast_pow]; rfl
      have hYX : Y ≤ X := by rw [← hY]; exact Nat.div_le_self _ _
      have hY64 : (Y : Int) < 18446744073709551616 := by omega
      have HS := Lib.hid (show Y % 2 ^ 32 = dig j (A / 2 ^ (32 * q + s)) by rw [← hY, ← hX]; exact shr_dig A q s j hs)
      have ew1 : IntKind.i64.wrap (((q + j : Nat) : Int) + 1) = ((q + j : Nat) : Int) + 1 := IntWalk.i64_in _ (by omega)
      have wd0 : IntKind.u64.wrap ((dig (q + j) A : Nat) : Int) = ((dig (q + j) A : Nat) : Int) := wrap_u64 (by omega) (by omega)
      have wd1 : IntKind.u64.wrap ((dig (q + j + 1) A : Nat) : Int) = ((dig (q + j + 1) A : Nat) : Int) := wrap_u64 (by omega) (by omega)
      clear hX hY hYX hX64 hY64 d0 d1
      generalize dig (q + j) A = D0 at *
      go_wp2
      go_quiet ((go_at_call 76; exact Calls.quiet_of_same (digit_z (q + j + 1) (by omega) _ (HX.out.call (by repeat (first | exact HB.out | refine below_drewN ?_ _ | refine Below.drew ?_))) (by omega) (by omega))))
      go_wp2_with (at_builtin; refine app_one rfl (.tmp 28) (.tmp 34) rfl w.heap.size (by rfl) ((HO.out.call (below_drewN (Below.refl _ _) _)).alloc _) wr.heap.size (Y % 2 ^ 32) (by rfl) (Nat.mod_lt _ (by decide)) (cell_new1 (int_u32 (by omega))) (by rw [digsTo_length]; omega) (by have := HB.out.size; simp; omega) ?_; intro v' w' hown' hb'; have HO' := Lib.hid hown'; have HB' := Lib.hid hb'; clear hown' hb')
      go_roundw
      case rel => exact ⟨j + 1, _, by omega, rfl, by omega, by rw [digsTo_succ, ← HS.out]; exact HO'.out, ((below_drewN HB.out _).alloc (HB.out.size) _).trans HB'.out⟩
      case measure => simp [intOf]; omega
    · have HS := Lib.hid (show valL (digsTo (A / 2 ^ (32 * q + s)) j) = A / 2 ^ (32 * q + s) by
        rw [valL_digsTo]; exact Nat.mod_eq_of_lt (shr_all (by omega)))
      go_wp2_with fail
      refine (Trim_any _ HO.out.reads (by rw [digsTo_length]; omega)).mono ?_
      rintro e w' ⟨v2, rfl, hN, rfl⟩
      go_wp2
      go_ret
      exact ⟨v2, rfl, by rw [HS.out] at hN; exact hN, HB.out⟩
theorem lenN_div {A n : Nat} : lenN (A / 2 ^ n) ≤ lenN A := lenN_mono (Nat.div_le_self _ _)
theorem lenN_mul_pow {A n : Nat} : lenN (A * 2 ^ n) ≤ lenN A + n / 32 + 1 := by
  apply lenN_le
  have h := lt_lenN A
  have h2 := Nat.two_pow_pos n
  have h3 : A * 2 ^ n < 2 ^ (32 * lenN A) * 2 ^ n := Nat.mul_lt_mul_of_pos_right h h2
  rw [← Nat.pow_add] at h3
  exact Nat.lt_of_lt_of_le h3 (Nat.pow_le_pow_right (by omega) (by omega))
set_option maxRecDepth 100000 in
set_option maxHeartbeats 4000000 in
theorem refCut_any {v : Value} {A : Nat} {z : Int} (n : Nat) (hz : z = n) (hn : n ≤ 65536) (w : World) (h : IsN w v A) (hl : lenN A ≤ 1024) :
    Calls Tryz.prog 27 #[v, .int .i64 z] w fun e w' => ∃ u, e = .returned u ∧ IsN w' u (A % 2 ^ n) ∧ Below w.heap.size w w' := by
  have HZ := Lib.hid hz
  have HI := Lib.hid h
  have HN := Lib.hid hn
  clear hz h hn
  have h1 := lenN_div (A := A) (n := n)
  have h2 := lenN_mul_pow (A := A / 2 ^ n) (n := n)
  have HC := Lib.hid (cut_eq A n)
  have HLE := Lib.hid (Nat.div_mul_le_self A (2 ^ n))
  go_enter Tryz.func27, Tryz.ntmps27
  go_wp2_with fail
  refine (refShr_any n HZ.out HN.out _ HI.out (by omega)).mono ?_
  rintro e w1 ⟨v1, rfl, hN1, hb1⟩
  have HN1 := Lib.hid hN1
  have HB1 := Lib.hid hb1
  clear hN1 hb1
  go_wp2_with fail
  refine (refShl_any n HZ.out HN.out _ HN1.out (by omega)).mono ?_
  rintro e w2 ⟨v2, rfl, hN2, hb2⟩
  have HN2 := Lib.hid hN2
  have HB2 := Lib.hid (HB1.out.trans (hb2.mono HB1.out.size))
  clear hN2 hb2
  go_wp2_with fail
  refine (refSub_any _ (HI.out.call HB2.out) HN2.out (by omega) (by have := HN.out; omega) HLE.out).mono ?_
  rintro e w3 ⟨v3, rfl, hN3, hb3⟩
  have HN3 := Lib.hid hN3
  have HB3 := Lib.hid (HB2.out.trans (hb3.mono HB2.out.size))
  clear hN3 hb3
  go_wp2
  refine bodyPost_ret (v := v3) (by simp [results, Tryz.results27, go_sem]) rfl ⟨v3, rfl, by have := HN3.out; rw [HC.out] at this; exact this, HB3.out⟩
set_option maxRecDepth 100000 in
set_option maxHeartbeats 4000000 in
theorem refFull_any {z : Int} (n : Nat) (hz : z = n) (hn : n ≤ 65536) (w : World) :
    Calls Tryz.prog 31 #[.int .i64 z] w fun e w' => ∃ u, e = .returned u ∧ IsN w' u (2 ^ n) ∧ Below w.heap.size w w' := by
  have HZ := Lib.hid hz
  have HN := Lib.hid hn
  clear hz hn
  have hl : lenN 1 ≤ 1 := lenN_le 1 1 (by decide)
  have HE := Lib.hid (Nat.one_mul (2 ^ n))
  go_enter Tryz.func31, Tryz.ntmps31
  go_wp2_with fail
  refine (refOf_any 1 (by decide) _).mono ?_
  rintro e w1 ⟨v1, rfl, hN1, hb1⟩
  have HN1 := Lib.hid hN1
  have HB1 := Lib.hid hb1
  clear hN1 hb1
  go_wp2_with fail
  refine (refShl_any n HZ.out HN.out _ HN1.out (by omega)).mono ?_
  rintro e w2 ⟨v2, rfl, hN2, hb2⟩
  have HN2 := Lib.hid hN2
  have HB2 := Lib.hid (HB1.out.trans (hb2.mono HB1.out.size))
  clear hN2 hb2
  go_wp2
  refine bodyPost_ret (v := v2) (by simp [results, Tryz.results31, go_sem]) rfl ⟨v2, rfl, by have := HN2.out; rw [HE.out] at this; exact this, HB2.out⟩
end Go.Proofs.YtpfoifflfgiaoaaGreatDoor
namespace Go.Proofs.YtpfoifflfgiaoaaGreatDoor
open Go.RowKit

end Go.Proofs.YtpfoifflfgiaoaaGreatDoor
namespace Go.Proofs.YtpfoifflfgiaoaaGreatDoor
open Go.RowKit

end Go.Proofs.YtpfoifflfgiaoaaGreatDoor
namespace Go.Proofs.YtpfoifflfgiaoaaGreatDoor
open Go.RowKit

end Go.Proofs.YtpfoifflfgiaoaaGreatDoor
namespace Go.Proofs.YtpfoifflfgiaoaaGreatDoor
open Go.RowKit

set_option maxRecDepth 100000 in
set_option maxHeartbeats 4000000 in
theorem refLen_any {v : Value} {A : Nat} (w : World) (h : IsN w v A) (hl : lenN A ≤ 65536) :
    Calls Tryz.prog 33 #[v] w fun e w' => e = .returned (.int .i64 (lenB A : Nat)) ∧ w = w' := by
  obtain ⟨ad, c, rfl, hc, hr⟩ := h.open
  by_cases h0 : A = 0
  · subst h0
    have e : lenN 0 = 0 := lenN_zero
    rw [e, lenB_zero]
    clear e hr h hl hc
    go_enter Tryz.func33, Tryz.ntmps33
    go_wp2
    go_ret
    exact ⟨rfl, rfl⟩
  · have hpos : 0 < lenN A := Nat.pos_of_ne_zero fun e => h0 (lenN_eq_zero.1 e)
    obtain ⟨b, o, rfl, hb, hcell⟩ := hr hpos
    have ck := hcell (lenN A - 1) (by omega)
    obtain ⟨n, hn⟩ : ∃ n, lenN A = n + 1 := ⟨lenN A - 1, by omega⟩
    have HN := Lib.hid hn
    have hd := dig_lt (lenN A - 1) A
    obtain ⟨_, hd0⟩ := top_dig h0
    have HT := fun j => lenB_top (A := A) (j := j) h0
    rw [hn] at hl hc ck hd hd0 HT ⊢
    simp only [Nat.add_sub_cancel] at ck hd hd0 HT
    have HTH := Lib.hid HT
    generalize dig n A = d at *
    clear hr hcell hn HT h hpos
    go_enter Tryz.func33, Tryz.ntmps33
    go_wp2
    go_loop [3, 4] (fun z t => ∃ (j : Nat) (x : Int) (y : Nat), j ≤ 31 ∧ z = .int .i64 x ∧ x = 32 * (n + 1) - j ∧ t = .int .u32 y ∧ Hid (y = d * 2 ^ j) ∧ 0 < y ∧ y < 2 ^ 32) (fun _ t => 4294967296 - (intOf t).toNat)
    case atStart => exact ⟨0, _, d, by omega, rfl, by omega, rfl, Lib.hid (by simp), hd0, by omega⟩
    case round =>
      obtain ⟨j, x, y, hj, rfl, hx, rfl, HY, hy0, hy1⟩ := hrel
      have HX := Lib.hid hx
      have x0 : 0 ≤ x := by omega
      have x1 : x ≤ 3000000 := by omega
      clear hx
      have y1 : (y : Int) < 4294967296 := by omega
      have y0 : (0 : Int) < y := by omega
      have HY1 := Lib.hid hy1
      clear hy1
      by_cases hlt : (y : Int) < 2147483648
      · have hj31 : j < 31 := by
          rcases Nat.lt_or_ge j 31 with g | g
          · exact g
          · have : j = 31 := by omega
            subst this
            have := HY.out
            omega
        have hx1 : 1 ≤ x := by have := HX.out; omega
        go_wp2
        go_round
        case rel => exact ⟨j + 1, _, y * 2, by omega, rfl, by have := HX.out; omega, by first | rfl | (congr 1; omega) | go_num, Lib.hid (by rw [HY.out, Nat.pow_succ, Nat.mul_assoc]), by omega, by omega⟩
        case measure => simp [intOf]; omega
      · have HR := Lib.hid (show x = (lenB A : Nat) by
          have e1 := HY.out
          have e2 := HTH.out j (by omega) (by rw [← e1]; omega) (by rw [← e1]; omega)
          have e3 := HX.out
          rw [e2]; omega)
        go_wp2
        go_ret
        exact ⟨ret_int HR.out, rfl⟩
theorem bit_u32 {d : Nat} (hd : d < 2 ^ 32) (k : Nat) : (bits .and .u32 ((d : Int) / 2 ^ k) 1 == 1) = d.testBit k := by
  have e : (d : Int) / 2 ^ k = ((d / 2 ^ k : Nat) : Int) := by rw [Int.natCast_ediv, Int.natCast_pow]; rfl
  have hle : d / 2 ^ k ≤ d := Nat.div_le_self _ _
  rw [e]
  generalize hq : d / 2 ^ k = q at *
  have ha : q < 2 ^ 32 := by omega
  have e1 : (BitVec.ofNat 32 q &&& BitVec.ofNat 32 1).toNat = q % 2 := by
    rw [BitVec.toNat_and, BitVec.toNat_ofNat, BitVec.toNat_ofNat, Nat.mod_eq_of_lt ha, Nat.mod_eq_of_lt (by omega), Nat.and_one_is_mod]
  have e2 : bits .and .u32 (q : Int) 1 = ((q % 2 : Nat) : Int) := by
    show IntKind.u32.wrap ((BitVec.ofInt 32 ((q : Nat) : Int) &&& BitVec.ofInt 32 ((1 : Nat) : Int)).toNat : Nat) = _
    rw [BitVec.ofInt_natCast, BitVec.ofInt_natCast, e1]
    unfold IntKind.wrap
    simp [IntKind.signed, IntKind.bits]; omega
  rw [e2, Nat.testBit_eq_decide_div_mod_eq, hq, Bool.eq_iff_iff, beq_iff_eq, decide_eq_true_iff]
  omega
theorem dig_bit (i A k : Nat) (hk : k < 32) : (dig i A).testBit k = A.testBit (32 * i + k) := by
  unfold dig; rw [Nat.testBit_mod_two_pow, Nat.testBit_div_two_pow, decide_eq_true hk, Bool.true_and]; congr 1; omega
set_option maxRecDepth 100000 in
set_option maxHeartbeats 4000000 in
theorem refBit_any {v : Value} {A : Nat} (z : Int) (hz : z ≤ 1000000) (w : World) (h : IsN w v A) (hl : lenN A ≤ 65536) :
    Calls Tryz.prog 29 #[v, .int .i64 z] w fun e w' => e = .returned (.bool (bitZ A z)) ∧ w = w' := by
  by_cases h0 : 0 ≤ z
  · obtain ⟨q, s, hs, rfl⟩ : ∃ q s : Nat, s < 32 ∧ z = ((32 * q + s : Nat) : Int) := ⟨(z / 32).toNat, (z % 32).toNat, by omega, by omega⟩
    have HR := Lib.hid (show (bits .and .u32 ((dig q A : Int) / 2 ^ s) 1 == 1) = bitZ A ((32 * q + s : Nat) : Int) by
      rw [bit_u32 (dig_lt q A), dig_bit q A s hs]
      unfold bitZ
      rw [decide_eq_true h0, Bool.true_and, Int.toNat_natCast])
    have e1 : ((32 * q + s : Nat) : Int) / 32 = q := by omega
    have e2 : ((32 * q + s : Nat) : Int) % 32 = s := by omega
    generalize ((32 * q + s : Nat) : Int) = z at *
    have hd := dig_lt q A
    have s1 : (s : Int) < 32 := by omega
    have s0 : (0 : Int) ≤ s := by omega
    have hq : q ≤ 1000000 := by omega
    go_enter Tryz.func29, Tryz.ntmps29
    go_wp2_with fail
    refine (digit_any q _ h hl hq).mono ?_
    rintro e w' ⟨rfl, rfl⟩
    go_wp2
    go_ret
    exact ⟨ret_bool HR.out, rfl⟩
  · have e : bitZ A z = false := by unfold bitZ; rw [decide_eq_false h0]; rfl
    rw [e]
    clear e h
    go_enter Tryz.func29, Tryz.ntmps29
    go_wp2
    go_ret
    exact ⟨rfl, rfl⟩
end Go.Proofs.YtpfoifflfgiaoaaGreatDoor
namespace Go.Proofs.YtpfoifflfgiaoaaGreatDoor
open Go.RowKit

theorem len128 {A : Nat} (h : W128 A) : lenN A ≤ 4 := lenN_le 4 A h.lt
theorem len64 {A : Nat} (h : A < 2 ^ 64) : lenN A ≤ 2 := lenN_le 2 A h
theorem lenN_sub (A B : Nat) : lenN (A - B) ≤ lenN A := lenN_mono (Nat.sub_le _ _)
theorem lenN_mod (A n : Nat) : lenN (A % n) ≤ lenN A := lenN_mono (Nat.mod_le _ _)
theorem lenN_pow (n : Nat) : lenN (2 ^ n) ≤ n / 32 + 1 := lenN_le _ _ (Nat.pow_lt_pow_right (by omega) (by omega))
theorem lenB_gt {A n : Nat} : n < lenB A ↔ 2 ^ n ≤ A := by
  constructor
  · intro h
    rcases Nat.lt_or_ge A (2 ^ n) with k | k
    · have := lenB_le k; omega
    · exact k
  · intro h
    rcases Nat.lt_or_ge n (lenB A) with k | k
    · exact k
    · have := lt_lenB A
      have := Nat.pow_le_pow_right (n := 2) (by omega) k
      omega
end Go.Proofs.YtpfoifflfgiaoaaGreatDoor
namespace Go.Proofs.YtpfoifflfgiaoaaGreatDoor
open Go Go.RowKit

@[go_sem] theorem bfield1 (x y : Value) (w : World) : (Instr.field 29 (.agg #[x, y]) 1).run Tryz.prog w = .ok y w := by kernel_rfl
def widthI (f : Int) : Nat := if f = 0 then 16 else if f = 1 then 32 else if f = 2 then 64 else if f = 3 then 128 else 0
theorem Width_any (f : Int) (w : World) : Calls Tryz.prog 35 #[.int .u8 f] w fun e w' => e = .returned (.int .i64 (widthI f : Nat)) ∧ w = w' := by
  have base : ∀ w', (w' = w) → True := fun _ _ => trivial
  go_enter Tryz.func35, Tryz.ntmps35
  by_cases h0 : f = 0
  · subst h0; go_wp2; go_ret; exact ⟨rfl, rfl⟩
  by_cases h1 : f = 1
  · subst h1; go_wp2; go_ret; exact ⟨rfl, rfl⟩
  by_cases h2 : f = 2
  · subst h2; go_wp2; go_ret; exact ⟨rfl, rfl⟩
  by_cases h3 : f = 3
  · subst h3; go_wp2; go_ret; exact ⟨rfl, rfl⟩
  have e0 : (f == 0) = false := by simp [h0]
  have e1 : (f == 1) = false := by simp [h1]
  have e2 : (f == 2) = false := by simp [h2]
  have e3 : (f == 3) = false := by simp [h3]
  have eW : widthI f = 0 := by simp [widthI, h0, h1, h2, h3]
  rw [eW]
  clear h0 h1 h2 h3 eW
  go_wp2
  go_ret; exact ⟨rfl, rfl⟩
set_option maxRecDepth 100000 in
set_option maxHeartbeats 4000000 in
theorem Fits_any (f : Int) {A : Nat} (hA : W128 A) (w : World) : Calls Tryz.prog 18 #[.int .u8 f, bitsV A] w fun e w' => e = .returned (.bool (decide (lenB A ≤ widthI f))) ∧ Below w.heap.size w w' := by
  have hl : lenN A ≤ 65536 := by have := len128 hA; omega
  go_enter Tryz.func18, Tryz.ntmps18
  go_wp2_with (first
    | (go_at_call 34; refine (Big_any hA _).mono ?_; rintro e w1 ⟨v, rfl, hN, hb1⟩)
    | (go_at_call 33; refine (refLen_any _ hN hl).mono ?_; rintro e w2 ⟨rfl, rfl⟩)
    | (go_at_call 35; refine (Width_any f _).mono ?_; rintro e w2 ⟨rfl, rfl⟩))
  go_ret
  exact ⟨rfl, ((Below.refl _ w).alloc (Nat.le_refl _) _).trans (hb1.mono (by simp))⟩
/-- bits of a kind: their number, its size, the sign -/
def wideK (k : Int) : Nat := if k = 0 ∨ k = 1 then 32 else 64
def negK (k : Int) (a : Nat) : Bool := (k == 0 || k == 2) && bitZ (a % 2 ^ wideK k) (wideK k - 1 : Nat)
def sizeK (k : Int) (a : Nat) : Nat := if negK k a then 2 ^ wideK k - a % 2 ^ wideK k else a % 2 ^ wideK k
set_option maxRecDepth 100000 in
set_option maxHeartbeats 4000000 in
theorem Of27_any (k : Int) (hk : k = 0 ∨ k = 1 ∨ k = 2 ∨ k = 3) (a : Nat) (ha : a < 2 ^ 64) (w : World) :
    Calls Tryz.prog 16 #[.int .u8 k, .int .u64 (a : Int)] w fun e w' => ∃ v, e = .returned (.tuple #[v, .bool (negK k a)]) ∧ IsN w' v (sizeK k a) ∧ Below w.heap.size w w' := by
  have la := len64 ha
  rcases hk with rfl | rfl | rfl | rfl
  · go_enter Tryz.func16, Tryz.ntmps16
    cases hn : negK 0 a with
    | true =>
      have hz : bitZ (a % 4294967296) 31 = true := by simpa [negK, wideK] using hn
      have hs : sizeK 0 a = 2 ^ 32 - a % 2 ^ 32 := by simp [sizeK, hn, wideK]
      go_wp2_with (first
        | (go_at_call 28; refine (refOf_any a ha _).mono ?_; rintro e w1 ⟨v1, rfl, hN1, hb1⟩)
        | (go_at_call 27; refine (refCut_any 32 rfl (by omega) _ hN1 (by omega)).mono ?_; rintro e w2 ⟨v2, rfl, hN2, hb2⟩)
        | (go_at_call 29; refine (refBit_any 31 (by omega) _ hN2 (by have := lenN_mod a (2 ^ 32); omega)).mono ?_; rintro e w3 ⟨rfl, rfl⟩)
        | (go_at_call 31; refine (refFull_any 32 rfl (by omega) _).mono ?_; rintro e w4 ⟨v4, rfl, hN4, hb4⟩)
        | (go_at_call 30; refine (refSub_any _ hN4 (hN2.call hb4) (by have := lenN_pow 32; omega) (by have := lenN_mod a (2 ^ 32); omega) (Nat.le_of_lt (Nat.mod_lt _ (by decide)))).mono ?_; rintro e w5 ⟨v5, rfl, hN5, hb5⟩))
      go_ret2
      exact ⟨v5, rfl, by rw [hs]; exact hN5, hb1.trans ((hb2.mono hb1.size).trans ((hb4.mono (Nat.le_trans hb1.size hb2.size)).trans (hb5.mono (Nat.le_trans (Nat.le_trans hb1.size hb2.size) hb4.size))))⟩
    | false =>
      have hz : bitZ (a % 4294967296) 31 = false := by simpa [negK, wideK] using hn
      have hs : sizeK 0 a = a % 2 ^ 32 := by simp [sizeK, hn, wideK]
      go_wp2_with (first
        | (go_at_call 28; refine (refOf_any a ha _).mono ?_; rintro e w1 ⟨v1, rfl, hN1, hb1⟩)
        | (go_at_call 27; refine (refCut_any 32 rfl (by omega) _ hN1 (by omega)).mono ?_; rintro e w2 ⟨v2, rfl, hN2, hb2⟩)
        | (go_at_call 29; refine (refBit_any 31 (by omega) _ hN2 (by have := lenN_mod a (2 ^ 32); omega)).mono ?_; rintro e w3 ⟨rfl, rfl⟩))
      go_ret2
      exact ⟨v2, rfl, by rw [hs]; exact hN2, hb1.trans (hb2.mono hb1.size)⟩
  · go_enter Tryz.func16, Tryz.ntmps16
    have hn : negK 1 a = false := by simp [negK]
    have hs : sizeK 1 a = a % 2 ^ 32 := by simp [sizeK, hn, wideK]
    go_wp2_with (first
      | (go_at_call 28; refine (refOf_any a ha _).mono ?_; rintro e w1 ⟨v1, rfl, hN1, hb1⟩)
      | (go_at_call 27; refine (refCut_any 32 rfl (by omega) _ hN1 (by omega)).mono ?_; rintro e w2 ⟨v2, rfl, hN2, hb2⟩))
    go_ret2
    exact ⟨v2, by rw [hn]; rfl, by rw [hs]; exact hN2, hb1.trans (hb2.mono hb1.size)⟩
  · go_enter Tryz.func16, Tryz.ntmps16
    cases hn : negK 2 a with
    | true =>
      have hz : bitZ (a % 18446744073709551616) 63 = true := by simpa [negK, wideK] using hn
      have hs : sizeK 2 a = 2 ^ 64 - a % 2 ^ 64 := by simp [sizeK, hn, wideK]
      go_wp2_with (first
        | (go_at_call 28; refine (refOf_any a ha _).mono ?_; rintro e w1 ⟨v1, rfl, hN1, hb1⟩)
        | (go_at_call 27; refine (refCut_any 64 rfl (by omega) _ hN1 (by omega)).mono ?_; rintro e w2 ⟨v2, rfl, hN2, hb2⟩)
        | (go_at_call 29; refine (refBit_any 63 (by omega) _ hN2 (by have := lenN_mod a (2 ^ 64); omega)).mono ?_; rintro e w3 ⟨rfl, rfl⟩)
        | (go_at_call 31; refine (refFull_any 64 rfl (by omega) _).mono ?_; rintro e w4 ⟨v4, rfl, hN4, hb4⟩)
        | (go_at_call 30; refine (refSub_any _ hN4 (hN2.call hb4) (by have := lenN_pow 64; omega) (by have := lenN_mod a (2 ^ 64); omega) (Nat.le_of_lt (Nat.mod_lt _ (by decide)))).mono ?_; rintro e w5 ⟨v5, rfl, hN5, hb5⟩))
      go_ret2
      exact ⟨v5, rfl, by rw [hs]; exact hN5, hb1.trans ((hb2.mono hb1.size).trans ((hb4.mono (Nat.le_trans hb1.size hb2.size)).trans (hb5.mono (Nat.le_trans (Nat.le_trans hb1.size hb2.size) hb4.size))))⟩
    | false =>
      have hz : bitZ (a % 18446744073709551616) 63 = false := by simpa [negK, wideK] using hn
      have hs : sizeK 2 a = a % 2 ^ 64 := by simp [sizeK, hn, wideK]
      go_wp2_with (first
        | (go_at_call 28; refine (refOf_any a ha _).mono ?_; rintro e w1 ⟨v1, rfl, hN1, hb1⟩)
        | (go_at_call 27; refine (refCut_any 64 rfl (by omega) _ hN1 (by omega)).mono ?_; rintro e w2 ⟨v2, rfl, hN2, hb2⟩)
        | (go_at_call 29; refine (refBit_any 63 (by omega) _ hN2 (by have := lenN_mod a (2 ^ 64); omega)).mono ?_; rintro e w3 ⟨rfl, rfl⟩))
      go_ret2
      exact ⟨v2, rfl, by rw [hs]; exact hN2, hb1.trans (hb2.mono hb1.size)⟩
  · go_enter Tryz.func16, Tryz.ntmps16
    have hn : negK 3 a = false := by simp [negK]
    have hs : sizeK 3 a = a % 2 ^ 64 := by simp [sizeK, hn, wideK]
    go_wp2_with (first
      | (go_at_call 28; refine (refOf_any a ha _).mono ?_; rintro e w1 ⟨v1, rfl, hN1, hb1⟩)
      | (go_at_call 27; refine (refCut_any 64 rfl (by omega) _ hN1 (by omega)).mono ?_; rintro e w2 ⟨v2, rfl, hN2, hb2⟩))
    go_ret2
    exact ⟨v2, by rw [hn]; rfl, by rw [hs]; exact hN2, hb1.trans (hb2.mono hb1.size)⟩
set_option maxRecDepth 100000 in
set_option maxHeartbeats 4000000 in
theorem Signed_any {v : Value} {A : Nat} (neg : Bool) (w : World) (h : IsN w v A) (hA : A ≤ 2 ^ 64) :
    Calls Tryz.prog 17 #[v, .bool neg] w fun e w' => e = .returned (.int .u64 (limb 0 (if neg then 2 ^ 64 - A else A))) ∧ Below w.heap.size w w' := by
  have lA : lenN A ≤ 3 := lenN_le 3 A (by omega)
  cases neg with
  | true =>
    go_enter Tryz.func17, Tryz.ntmps17
    go_wp2_with (first
      | (go_at_call 31; refine (refFull_any 64 rfl (by omega) _).mono ?_; rintro e w1 ⟨v1, rfl, hN1, hb1⟩)
      | (go_at_call 30; refine (refSub_any _ hN1 (h.call hb1) (by have := lenN_pow 64; omega) (by omega) hA).mono ?_; rintro e w2 ⟨v2, rfl, hN2, hb2⟩)
      | (go_at_call 32; refine (Bits_any _ hN2 (by have := lenN_pow 64; have := lenN_sub (2 ^ 64) A; omega)).mono ?_; rintro e w3 ⟨he, hb3⟩; obtain rfl : e = .returned (.agg #[.int .u64 (limb 1 (2 ^ 64 - A)), .int .u64 (limb 0 (2 ^ 64 - A))]) := he))
    go_ret
    exact ⟨rfl, hb1.trans ((hb2.mono hb1.size).trans (hb3.mono (Nat.le_trans hb1.size hb2.size)))⟩
  | false =>
    go_enter Tryz.func17, Tryz.ntmps17
    go_wp2_with (first
      | (go_at_call 32; refine (Bits_any _ h (by omega)).mono ?_; rintro e w3 ⟨he, hb3⟩; obtain rfl : e = .returned (.agg #[.int .u64 (limb 1 A), .int .u64 (limb 0 A)]) := he))
    go_ret
    exact ⟨rfl, hb3⟩
end Go.Proofs.YtpfoifflfgiaoaaGreatDoor
