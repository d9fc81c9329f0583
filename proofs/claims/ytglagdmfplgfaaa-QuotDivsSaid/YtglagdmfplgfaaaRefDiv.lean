/- The references' quotients and roots, bit by bit: contracts. -/
import Derived.Test.YtglagdmfplgfaaaRefAll
import Derived.Test.YtglagdmfplgfaaaNum05b
import Derived.Test.YtglagdmfplgfaaaRegion
set_option linter.unusedVariables false
set_option linter.unusedSimpArgs false
namespace Go.Proofs.Ytglagdmfplgfaaa
open Go.RowKit

theorem valL_dig : ∀ {l : List Nat} {j e : Nat}, DigL l → l[j]? = some e → dig j (valL l) = e
  | [], j, e, _, h => by simp at h
  | d :: l, 0, e, hd, h => by
    have h0 : d = e := by simpa using h
    subst h0
    have := hd d List.mem_cons_self
    rw [dig_first, valL]; omega
  | d :: l, j + 1, e, hd, h => by
    have h1 := hd d List.mem_cons_self
    rw [dig_succ, valL, show (d + 2 ^ 32 * valL l) / 2 ^ 32 = valL l by omega]
    exact valL_dig (fun x hx => hd x (List.mem_cons_of_mem _ hx)) (by simpa using h)
theorem or_u32 {a b : Nat} (ha : a < 2 ^ 32) (hb : b < 2 ^ 32) : bits .or .u32 (a : Int) (b : Int) = ((a ||| b : Nat) : Int) := by
  have hab : a ||| b < 2 ^ 32 := Nat.or_lt_two_pow ha hb
  have e : (BitVec.ofNat 32 a ||| BitVec.ofNat 32 b).toNat = a ||| b := by
    rw [BitVec.toNat_or, BitVec.toNat_ofNat, BitVec.toNat_ofNat, Nat.mod_eq_of_lt ha, Nat.mod_eq_of_lt hb]
  show IntKind.u32.wrap ((BitVec.ofInt 32 ((a : Nat) : Int) ||| BitVec.ofInt 32 ((b : Nat) : Int)).toNat : Nat) = _
  rw [BitVec.ofInt_natCast, BitVec.ofInt_natCast, e]
  exact wrap_u32_nat _ _ (by omega)
/-- a bit laid into a digit -/
theorem lay_dig {l : List Nat} {q s e : Nat} (hd : DigL l) (he : l[q]? = some e) (hs : s < 32) (h0 : valL l % 2 ^ (32 * q + s + 1) = 0) :
    bits .or .u32 (e : Int) (2 ^ s) = ((e + 2 ^ s : Nat) : Int) ∧ e + 2 ^ s < 2 ^ 32 ∧ valL (l.set q (e + 2 ^ s)) = valL l + 2 ^ (32 * q + s) := by
  have hdig := valL_dig hd he
  have he32 := hd.at he
  have hp : 2 ^ s < 2 ^ 32 := Nat.pow_lt_pow_right (by omega) hs
  have hm : e % 2 ^ (s + 1) = 0 := by
    rw [← hdig]
    unfold dig
    obtain ⟨c, hc⟩ := Nat.dvd_of_mod_eq_zero h0
    rw [hc, show 32 * q + s + 1 = 32 * q + (s + 1) by omega, Nat.pow_add, Nat.mul_assoc, Nat.mul_div_cancel_left _ (Nat.two_pow_pos _)]
    rw [Nat.mod_mod_of_dvd _ (Nat.pow_dvd_pow 2 (by omega)), Nat.mul_mod_right]
  have ho := or_add hm
  have hlt : e ||| 2 ^ s < 2 ^ 32 := Nat.or_lt_two_pow he32 hp
  refine ⟨?_, by rw [← ho]; exact hlt, ?_⟩
  · have := or_u32 he32 hp
    rw [ho] at this
    rw [← this]; congr 1
  · have := valL_set (d := e + 2 ^ s) he
    rw [Nat.add_mul, ← Nat.pow_add, Nat.add_comm s] at this
    omega
theorem quo_mod (A D j : Nat) : quoN A D (j + 1) % 2 ^ (j + 1) = 0 := by unfold quoN; exact Nat.mul_mod_left _ _
theorem bitZ_bitN (A j : Nat) : bitN A j = if bitZ A (j : Int) = true then 1 else 0 := by
  unfold bitZ bitN
  rw [decide_eq_true (by omega : (0 : Int) ≤ j), Bool.true_and, Int.toNat_natCast, Nat.testBit_eq_decide_div_mod_eq]
  by_cases h : A / 2 ^ j % 2 = 1
  · simp [h]
  · simp [h]; omega
theorem rest_len {A D j : Nat} (hD : 0 < D) : restN A D j ≤ D := Nat.le_of_lt (rest_lt A hD j)
theorem one_u32 {s : Nat} (hs : s < 32) : IntKind.u32.wrap (2 ^ s) = 2 ^ s ∧ IntKind.u32.wrap (1 * 2 ^ s) = 2 ^ s := by
  have hp : 2 ^ s < 2 ^ 32 := Nat.pow_lt_pow_right (by omega) hs
  obtain ⟨p, hp2⟩ : ∃ p : Nat, 2 ^ s = p := ⟨_, rfl⟩
  have e : (2 ^ s : Int) = (p : Int) := by rw [← hp2]; simp
  rw [hp2] at hp
  rw [Int.one_mul, e, wrap_u32_nat _ p (by omega)]
  exact ⟨rfl, rfl⟩
theorem isN_nil (w : World) : IsN w (.slice none 0 0) 0 := by
  unfold IsN; rw [digs_zero]; exact ⟨DigL.nil, none, 0, rfl, Nat.le_refl _, fun h0 => absurd h0 (by simp)⟩

set_option maxRecDepth 100000 in
set_option maxHeartbeats 8000000 in
theorem Trim_f {v : Value} {l : List Nat} (w : World) (h : IsL w v l) (hl : l.length ≤ 65536) :
    Calls Try.prog 40 #[v] w fun e w' => ∃ v', e = .returned v' ∧ IsN w v' (valL l) ∧ (∀ kk, v'.ownBlock = some kk → v.ownBlock = some kk) ∧ w = w' := by
  obtain ⟨hd, ad, c, rfl, hc, hr⟩ := h
  have HL := Lib.hid hl
  have HC := Lib.hid hc
  have HR := Lib.hid hr
  clear hr hc
  go_enter Try.func40, Try.ntmps40
  go_wp2
  go_loop [0] (fun a => ∃ n : Nat, n ≤ l.length ∧ a = .slice ad n c ∧ valL (l.take n) = valL l) (fun a => slen a)
  case atStart => exact ⟨l.length, Nat.le_refl _, rfl, by rw [List.take_length]⟩
  case round =>
    obtain ⟨n, hn, rfl, hv⟩ := hrel
    have HV := Lib.hid hv
    clear hv
    rcases n with _ | k
    · go_wp2
      go_ret
      have hv0 : valL l = 0 := by have := HV.out; rw [List.take_zero] at this; rw [← this]; rfl
      refine ⟨_, rfl, ?_, fun kk hkk => by first | exact hkk | (cases ad <;> exact hkk), rfl⟩
      rw [hv0]
      unfold IsN
      rw [digs_zero]
      exact ⟨DigL.nil, ad, c, rfl, Nat.zero_le _, fun h0 => absurd h0 (by simp)⟩
    · obtain ⟨b, o, rfl, hlt, hcell⟩ := HR.out (by omega)
      obtain ⟨d, hdk⟩ : ∃ d, l[k]? = some d := ⟨l[k]'(by omega), List.getElem?_eq_getElem (by omega)⟩
      have hck := hcell k d hdk
      have hkc : k + 1 ≤ c := by have := HC.out; omega
      have HD := Lib.hid hdk
      have HCL := Lib.hid hcell
      clear hdk hcell
      by_cases h0 : d = 0
      · subst h0
        go_wp2
        go_round
        case rel => exact ⟨k, by omega, rfl, by rw [← HV.out]; exact (valL_take_drop HD.out).symm⟩
        case measure => simp [slen]
      · have hne : ((d : Int) == 0) = false := by rw [beq_eq_false_iff_ne]; omega
        go_wp2
        refine bodyPost_ret (v := .slice (some ⟨b, o, none⟩) (k + 1) c) (by simp [results, Try.results40, go_sem]) rfl ?_
        have e : digs (valL l) = l.take (k + 1) := by rw [← HV.out]; exact trim_end hd (by omega) HD.out h0
        have hlen : (l.take (k + 1)).length = k + 1 := by rw [List.length_take]; omega
        refine ⟨_, rfl, ?_, fun kk hkk => by first | exact hkk | (cases ad <;> exact hkk), rfl⟩
        unfold IsN
        rw [e]
        refine ⟨hd.take _, _, c, by rw [hlen], by omega, fun _ => ⟨b, o, rfl, hlt, fun j x hj => HCL.out j x ?_⟩⟩
        have hj2 : j < (l.take (k + 1)).length := (List.getElem?_eq_some_iff.1 hj).1
        rw [List.getElem?_take_of_lt (by omega)] at hj
        exact hj
set_option maxRecDepth 100000 in
set_option maxHeartbeats 8000000 in
theorem refAdd_f {x y : Value} {A B : Nat} (w : World) (hx : IsN w x A) (hy : IsN w y B) (la : lenN A ≤ 4096) (lb : lenN B ≤ 4096) :
    Calls Try.prog 49 #[x, y] w fun e w' => ∃ v, e = .returned v ∧ IsN w' v (A + B) ∧ (∀ kk, v.ownBlock = some kk → w.heap.size ≤ kk) ∧ Below w.heap.size w w' := by
  have hx' := hx
  have hy' := hy
  obtain ⟨ax, cx, rfl, hcx, hrx⟩ := hx.open
  obtain ⟨ay, cy, rfl, hcy, hry⟩ := hy.open
  have HX := Lib.hid hx'
  have HY := Lib.hid hy'
  clear hrx hry hx hy hx' hy' hcx hcy
  obtain ⟨M, hM1, hM2, hM3⟩ : ∃ M, lenN A ≤ M ∧ lenN B ≤ M ∧ (M = lenN A ∨ M = lenN B) := ⟨max (lenN A) (lenN B), by omega, by omega, by omega⟩
  go_enter Try.func49, Try.ntmps49
  go_wp2
  go_loopw [5, 6, 7] (fun v c i wr => ∃ (k : Nat) (l : List Nat) (cc : Nat), k ≤ M ∧ i = .int .i64 k ∧ c = .int .u64 cc ∧ cc ≤ 1 ∧ OwnN w.heap.size wr v l ∧ l.length = k ∧ Hid (valL l + cc * 2 ^ (32 * k) = A % 2 ^ (32 * k) + B % 2 ^ (32 * k)) ∧ Below w.heap.size w wr) (fun _ _ i _ => M - (intOf i).toNat)
  case atStart => exact ⟨0, [], 0, by omega, rfl, rfl, by omega, OwnN.nil _ _, rfl, Lib.hid (by simp [valL, Nat.mod_one]), Below.refl _ _⟩
  case round =>
    obtain ⟨k, l, cc, hk, rfl, rfl, hcc, hown, hlen, HV, hbel⟩ := hrel
    have d0 := dig_lt k A
    have d1 := dig_lt k B
    have HO := Lib.hid hown
    have HB := Lib.hid hbel
    have HL := Lib.hid hlen
    clear hown hbel hlen
    by_cases h1 : k < lenN A
    · have hkM : k < M := by omega
      go_wp2_with fail
      refine (digit_any k _ (HX.out.call HB.out) (by omega) (by omega)).mono ?_
      rintro e w' ⟨rfl, rfl⟩
      go_wp2_with fail
      refine (digit_any k _ (HY.out.call HB.out) (by omega) (by omega)).mono ?_
      rintro e w' ⟨rfl, rfl⟩
      go_wp2_with (at_builtin; refine app_one rfl (.tmp 31) (.tmp 34) rfl w.heap.size (by rfl) (HO.out.alloc _) wr.heap.size ((cc + dig k A + dig k B) % 2 ^ 32) (by rfl) (Nat.mod_lt _ (by decide)) (cell_new1 (int_u32 (by omega))) (by have := HL.out; omega) (by have := HB.out.size; simp; omega) ?_; intro v' w' hown' hb'; have HO' := Lib.hid hown'; have HB' := Lib.hid hb'; clear hown' hb')
      go_roundw
      case rel => exact ⟨k + 1, l ++ [(cc + dig k A + dig k B) % 2 ^ 32], (cc + dig k A + dig k B) / 2 ^ 32, by omega, by go_num, int_u64 (by omega), sum_carry32 hcc, HO'.out, by simp [HL.out], Lib.hid (by rw [valL_snoc, HL.out]; exact sum_step32 HV.out), (HB.out.alloc (HB.out.size) _).trans HB'.out⟩
      case measure => simp [intOf]; omega
    by_cases h2 : k < lenN B
    · have hkM : k < M := by omega
      go_wp2_with fail
      refine (digit_any k _ (HX.out.call HB.out) (by omega) (by omega)).mono ?_
      rintro e w' ⟨rfl, rfl⟩
      go_wp2_with fail
      refine (digit_any k _ (HY.out.call HB.out) (by omega) (by omega)).mono ?_
      rintro e w' ⟨rfl, rfl⟩
      go_wp2_with (at_builtin; refine app_one rfl (.tmp 31) (.tmp 34) rfl w.heap.size (by rfl) (HO.out.alloc _) wr.heap.size ((cc + dig k A + dig k B) % 2 ^ 32) (by rfl) (Nat.mod_lt _ (by decide)) (cell_new1 (int_u32 (by omega))) (by have := HL.out; omega) (by have := HB.out.size; simp; omega) ?_; intro v' w' hown' hb'; have HO' := Lib.hid hown'; have HB' := Lib.hid hb'; clear hown' hb')
      go_roundw
      case rel => exact ⟨k + 1, l ++ [(cc + dig k A + dig k B) % 2 ^ 32], (cc + dig k A + dig k B) / 2 ^ 32, by omega, by go_num, int_u64 (by omega), sum_carry32 hcc, HO'.out, by simp [HL.out], Lib.hid (by rw [valL_snoc, HL.out]; exact sum_step32 HV.out), (HB.out.alloc (HB.out.size) _).trans HB'.out⟩
      case measure => simp [intOf]; omega
    · have hkA : lenN A ≤ k := by omega
      have hkB : lenN B ≤ k := by omega
      have HS := Lib.hid (show valL (l ++ [cc]) = A + B by rw [valL_snoc, HL.out, HV.out, mod_len hkA, mod_len hkB])
      go_wp2_with (at_builtin; refine app_one rfl (.tmp 38) (.tmp 41) rfl w.heap.size (by rfl) (HO.out.alloc _) wr.heap.size cc (by rfl) (by omega) (cell_new1 (int_u32 (by omega))) (by have := HL.out; omega) (by have := HB.out.size; simp; omega) ?_; intro v' w' hown' hb'; have HO' := Lib.hid hown'; have HB' := Lib.hid hb'; clear hown' hb')
      refine (Trim_f _ HO'.out.reads (by simp [HL.out]; omega)).mono ?_
      rintro e w' ⟨v2, rfl, hN, hob, rfl⟩
      go_wp2
      go_ret
      exact ⟨v2, rfl, by rw [HS.out] at hN; exact hN, fun kk hkk => HO'.out.old kk (hob kk hkk), (HB.out.alloc (HB.out.size) _).trans HB'.out⟩
set_option maxRecDepth 100000 in
set_option maxHeartbeats 8000000 in
theorem refSub_f {x y : Value} {A B : Nat} (w : World) (hx : IsN w x A) (hy : IsN w y B) (la : lenN A ≤ 4096) (lb : lenN B ≤ 4096) (hle : B ≤ A) :
    Calls Try.prog 81 #[x, y] w fun e w' => ∃ v, e = .returned v ∧ IsN w' v (A - B) ∧ (∀ kk, v.ownBlock = some kk → w.heap.size ≤ kk) ∧ Below w.heap.size w w' := by
  have hx' := hx
  have hy' := hy
  obtain ⟨ax, cx, rfl, hcx, hrx⟩ := hx.open
  obtain ⟨ay, cy, rfl, hcy, hry⟩ := hy.open
  have HX := Lib.hid hx'
  have HY := Lib.hid hy'
  have HLE := Lib.hid hle
  clear hrx hry hx hy hx' hy' hcx hcy hle
  go_enter Try.func81, Try.ntmps81
  go_wp2
  go_loopw [5, 6, 7] (fun v c i wr => ∃ (k : Nat) (l : List Nat) (cc : Nat), k ≤ lenN A ∧ i = .int .i64 k ∧ c = .int .u64 cc ∧ cc ≤ 1 ∧ OwnN w.heap.size wr v l ∧ l.length = k ∧ Hid (valL l + B % 2 ^ (32 * k) = A % 2 ^ (32 * k) + cc * 2 ^ (32 * k)) ∧ Below w.heap.size w wr) (fun _ _ i _ => lenN A - (intOf i).toNat)
  case atStart => exact ⟨0, [], 0, by omega, rfl, rfl, by omega, OwnN.nil _ _, rfl, Lib.hid (by simp [valL, Nat.mod_one]), Below.refl _ _⟩
  case round =>
    obtain ⟨k, l, cc, hk, rfl, rfl, hcc, hown, hlen, HV, hbel⟩ := hrel
    have d0 := dig_lt k A
    have d1 := dig_lt k B
    have HO := Lib.hid hown
    have HB := Lib.hid hbel
    have HL := Lib.hid hlen
    clear hown hbel hlen
    by_cases h1 : k < lenN A
    · have q0 : (0 : Int) ≤ ((dig k A : Nat) : Int) + 4294967296 - ((dig k B : Nat) : Int) - (cc : Int) := by omega
      have q1 : ((dig k A : Nat) : Int) + 4294967296 - ((dig k B : Nat) : Int) - (cc : Int) ≤ 8589934592 := by omega
      go_wp2_with fail
      refine (digit_any k _ (HX.out.call HB.out) (by omega) (by omega)).mono ?_
      rintro e w' ⟨rfl, rfl⟩
      go_wp2_with fail
      refine (digit_any k _ (HY.out.call HB.out) (by omega) (by omega)).mono ?_
      rintro e w' ⟨rfl, rfl⟩
      go_wp2_with (at_builtin; refine app_one rfl (.tmp 27) (.tmp 30) rfl w.heap.size (by rfl) (HO.out.alloc _) wr.heap.size ((dig k A + 2 ^ 32 - dig k B - cc) % 2 ^ 32) (by rfl) (Nat.mod_lt _ (by decide)) (cell_new1 (int_u32 (by omega))) (by have := HL.out; omega) (by have := HB.out.size; simp; omega) ?_; intro v' w' hown' hb'; have HO' := Lib.hid hown'; have HB' := Lib.hid hb'; clear hown' hb')
      go_roundw
      case rel => exact ⟨k + 1, l ++ [(dig k A + 2 ^ 32 - dig k B - cc) % 2 ^ 32], 1 - (dig k A + 2 ^ 32 - dig k B - cc) / 2 ^ 32, by omega, by go_num, int_u64 (by omega), by omega, HO'.out, by simp [HL.out], Lib.hid (by rw [valL_snoc, HL.out]; exact dif_step32 hcc HV.out), (HB.out.alloc (HB.out.size) _).trans HB'.out⟩
      case measure => simp [intOf]; omega
    · have hkA : lenN A ≤ k := by omega
      have HS := Lib.hid (show valL l = A - B by
        have e := HV.out
        have hkB : lenN B ≤ k := Nat.le_trans (lenN_mono HLE.out) hkA
        rw [mod_len hkA, mod_len hkB] at e
        have h2 := valL_lt HO.out.1
        rw [HL.out] at h2
        have h3 := HLE.out
        have h4 := mod_len hkA
        have h5 : A < 2 ^ (32 * k) := by rw [← h4]; exact Nat.mod_lt _ (Nat.two_pow_pos _)
        have h6 : cc = 0 := by
          rcases (by omega : cc = 0 ∨ cc = 1) with h | h
          · exact h
          · subst h; omega
        subst h6; omega)
      go_wp2_with fail
      refine (Trim_f _ HO.out.reads (by simp [HL.out]; omega)).mono ?_
      rintro e w' ⟨v2, rfl, hN, hob, rfl⟩
      go_wp2
      go_ret
      exact ⟨v2, rfl, by rw [HS.out] at hN; exact hN, fun kk hkk => HO.out.old kk (hob kk hkk), HB.out⟩
set_option maxRecDepth 100000 in
set_option maxHeartbeats 8000000 in
theorem refShl_f {v : Value} {A : Nat} {z : Int} (n : Nat) (hz : z = n) (hn : n ≤ 65536) (w : World) (h : IsN w v A) (hl : lenN A ≤ 4096) :
    Calls Try.prog 45 #[v, .int .i64 z] w fun e w' => ∃ u, e = .returned u ∧ IsN w' u (A * 2 ^ n) ∧ (∀ kk, u.ownBlock = some kk → w.heap.size ≤ kk) ∧ Below w.heap.size w w' := by
  obtain ⟨q, s, hs, rfl⟩ : ∃ q s : Nat, s < 32 ∧ n = 32 * q + s := ⟨n / 32, n % 32, by omega, by omega⟩
  have e1 : z / 32 = q := by omega
  have e2 : z % 32 = s := by omega
  have z0 : 0 ≤ z := by omega
  have z1 : z ≤ 65536 := by omega
  have hq : q ≤ 4096 := by omega
  clear hz hn
  have h' := h
  obtain ⟨ad, c0, rfl, hc0, hr⟩ := h.open
  have HX := Lib.hid h'
  clear hr h h' hc0
  have s1 : (s : Int) < 32 := by omega
  have s0 : (0 : Int) ≤ s := by omega
  go_enter Try.func45, Try.ntmps45
  go_wp2_with (at_make; refine make_any rfl (.tmp 9) (.tmp 9) rfl w.heap.size q e1 (by rfl) (by rfl) (by omega) (Nat.le_refl _) ?_; intro w1 hown hbel)
  go_loopw [5, 6, 7] (fun v c i wr => ∃ (k : Nat) (l : List Nat) (cc : Nat), k ≤ lenN A ∧ i = .int .i64 k ∧ c = .int .u64 cc ∧ cc < 2 ^ s ∧ OwnN w.heap.size wr v l ∧ l.length = q + k ∧ Hid (valL l + cc * 2 ^ (32 * (q + k)) = A % 2 ^ (32 * k) * 2 ^ (32 * q + s)) ∧ Below w.heap.size w wr) (fun _ _ i _ => lenN A - (intOf i).toNat)
  case atStart => exact ⟨0, _, 0, by omega, rfl, rfl, Nat.two_pow_pos _, hown, by simp, Lib.hid (by simp [valL_zeros, Nat.mod_one]), hbel⟩
  case round =>
    clear hown hbel
    obtain ⟨k, l, cc, hk, rfl, rfl, hcc, hown, hlen, HV, hbel⟩ := hrel
    have d0 := dig_lt k A
    have HO := Lib.hid hown
    have HB := Lib.hid hbel
    have HL := Lib.hid hlen
    clear hown hbel hlen
    by_cases h1 : k < lenN A
    · obtain ⟨ad', c0', ex, _, hrx⟩ := (HX.out.call HB.out).open
      cases ex
      obtain ⟨bx, ox, rfl, _, hcx⟩ := hrx (by omega)
      have ca := hcx k h1
      clear hcx hrx
      obtain ⟨X, hX⟩ : ∃ X, dig k A * 2 ^ s + cc = X := ⟨_, rfl⟩
      obtain ⟨x1, x2⟩ := shl_carry d0 hs hcc
      have eo := or_shl d0 hs hcc
      rw [hX] at eo x1 x2
      have HX2 := Lib.hid hX
      have HX3 := Lib.hid x2
      have hcc' := Lib.hid hcc
      have x3 : (X : Int) < 9223372036854775808 := by omega
      clear hX x2 x1 hcc
      go_wp2_with (at_builtin; refine app_one rfl (.tmp 27) (.tmp 30) rfl w.heap.size (by rfl) (HO.out.alloc _) wr.heap.size (X % 2 ^ 32) (by rfl) (Nat.mod_lt _ (by decide)) (cell_new1 (int_u32 (by omega))) (by have := HL.out; omega) (by have := HB.out.size; simp; omega) ?_; intro v' w' hown' hb'; have HO' := Lib.hid hown'; have HB' := Lib.hid hb'; clear hown' hb')
      go_roundw
      case rel => exact ⟨k + 1, l ++ [X % 2 ^ 32], X / 2 ^ 32, by omega, by go_num, int_u64 (by omega), HX3.out, HO'.out, by simp [HL.out]; omega, Lib.hid (by rw [valL_snoc, HL.out, ← HX2.out]; exact shl_step HV.out), (HB.out.alloc (HB.out.size) _).trans HB'.out⟩
      case measure => simp [intOf]; omega
    · have hkA : lenN A ≤ k := by omega
      have hcc2 : cc < 2 ^ 31 := Nat.lt_of_lt_of_le hcc (Nat.pow_le_pow_right (by omega) (by omega))
      have HS := Lib.hid (show valL (l ++ [cc]) = A * 2 ^ (32 * q + s) by rw [valL_snoc, HL.out, HV.out, mod_len hkA])
      have hcc3 : (cc : Int) < 2147483648 := by omega
      clear hcc hcc2
      go_wp2_with (at_builtin; refine app_one rfl (.tmp 34) (.tmp 37) rfl w.heap.size (by rfl) (HO.out.alloc _) wr.heap.size cc (by rfl) (by omega) (cell_new1 (int_u32 (by omega))) (by have := HL.out; omega) (by have := HB.out.size; simp; omega) ?_; intro v' w' hown' hb'; have HO' := Lib.hid hown'; have HB' := Lib.hid hb'; clear hown' hb')
      refine (Trim_f _ HO'.out.reads (by simp [HL.out]; omega)).mono ?_
      rintro e w' ⟨v2, rfl, hN, hob, rfl⟩
      go_wp2
      go_ret
      exact ⟨v2, rfl, by rw [HS.out] at hN; exact hN, fun kk hkk => HO'.out.old kk (hob kk hkk), (HB.out.alloc (HB.out.size) _).trans HB'.out⟩
theorem IsN.other {w : World} {v : Value} {A b j : Nat} {x : Value} (h : IsN w v A) (hne : ∀ kk, v.ownBlock = some kk → b ≠ kk) : IsN (w.setCell ⟨b, j, none⟩ x) v A := by
  obtain ⟨hd, ad, c, rfl, hc, hr⟩ := h
  refine ⟨hd, ad, c, rfl, hc, fun h0 => ?_⟩
  obtain ⟨b', o, e, hlt, hcell⟩ := hr h0
  refine ⟨b', o, e, by simpa using hlt, fun j' d hj => ?_⟩
  rw [World.cell?_setCell_other _ _ _ _ (blk_ne (hne b' (by rw [e]; rfl)))]
  exact hcell j' d hj
set_option maxRecDepth 100000 in
set_option maxHeartbeats 8000000 in
theorem refDiv_any {x y : Value} {A D : Nat} (w : World) (hx : IsN w x A) (hy : IsN w y D) (la : lenN A ≤ 512) (lb : lenN D ≤ 512) (hD : 0 < D) :
    Calls Try.prog 75 #[x, y] w fun e w' => ∃ q r, e = .returned (.tuple #[q, r]) ∧ IsN w' q (A / D) ∧ IsN w' r (A % D) ∧ Below w.heap.size w w' := by
  have hx' := hx
  obtain ⟨ax, cx, rfl, hcx, hrx⟩ := hx.open
  have HX := Lib.hid hx'
  have HY := Lib.hid hy
  have HD := Lib.hid hD
  clear hrx hx hx' hy hcx hD
  have hLB := lenB_len A
  have HTA := Lib.hid (lt_lenB A)
  have HRL := Lib.hid (fun j => lenN_mono (rest_len (A := A) (j := j) HD.out))
  go_enter Try.func75, Try.ntmps75
  go_wp2_with (at_make; refine make_any rfl (.tmp 10) (.tmp 10) rfl w.heap.size (lenN A) rfl (by rfl) (by rfl) (by omega) (Nat.le_refl _) ?_; intro w1 hown hbel)
  have HO1 := Lib.hid hown
  have HB1 := Lib.hid hbel
  clear hown hbel
  go_wp2_with fail
  refine (refLen_any _ (HX.out.call HB1.out) (by omega)).mono ?_
  rintro e w' ⟨rfl, rfl⟩
  go_wp2
  go_loopw [7, 8] (fun r i wr => ∃ (k : Nat) (z : Int) (u : Value) (l : List Nat), u = r ∧ k ≤ lenB A ∧ i = .int .i64 z ∧ z = k - 1 ∧ IsN wr u (restN A D k) ∧ (∀ kk, u.ownBlock = some kk → w.heap.size < kk) ∧ OwnN w.heap.size wr (.slice (some ⟨w.heap.size, 0, none⟩) l.length (lenN A)) l ∧ l.length = lenN A ∧ Hid (valL l = quoN A D k) ∧ Below w.heap.size w wr) (fun _ i _ => (intOf i + 1).toNat)
  case atStart => exact ⟨lenB A, _, _, _, rfl, by omega, rfl, by omega, by rw [rest_top HTA.out]; exact isN_nil _, (fun kk hkk => (by cases hkk)), by rw [List.length_replicate]; exact HO1.out, List.length_replicate, Lib.hid (by rw [quo_top HTA.out, valL_zeros]), HB1.out⟩
  case round =>
    clear HO1 HB1
    obtain ⟨k, z, u, l, rfl, hk, rfl, hz, hr, hfr, hown, hlen, HV, hbel⟩ := hrel
    have HSZ := Lib.hid (hown.2.lt w.heap.size rfl).2
    clear hfr
    have HR := Lib.hid hr
    have HO := Lib.hid hown
    have HB := Lib.hid hbel
    have HN := Lib.hid hlen
    clear hown hbel hlen hr
    rcases k with _ | j
    · obtain rfl : z = -1 := by omega
      clear hz
      have HQ := Lib.hid (show valL l = A / D by rw [HV.out, quo_end])
      have HE := Lib.hid (rest_end A D)
      go_wp2_with fail
      have hrd := HO.out.reads
      rw [HN.out] at hrd
      refine (Trim_any _ hrd (by rw [HN.out]; omega)).mono ?_
      rintro e w' ⟨v2, rfl, hN, rfl⟩
      go_wp2
      refine bodyPost_ret (v := .tuple #[v2, u]) (by simp [results, Try.results75, go_sem]) rfl ⟨v2, u, rfl, ?_, ?_, HB.out⟩
      · rw [HQ.out] at hN; exact hN
      · have := HR.out; rw [HE.out] at this; exact this
    · obtain ⟨q, s, hs, rfl⟩ : ∃ q s : Nat, s < 32 ∧ j = 32 * q + s := ⟨j / 32, j % 32, by omega, by omega⟩
      have e1 : z / 32 = q := by omega
      have e2 : z % 32 = s := by omega
      have z0 : 0 ≤ z := by omega
      have z9 : z ≤ 20000 := by omega
      have t1 : z.tdiv 32 = (q : Int) := by rw [Int.tdiv_eq_ediv_of_nonneg z0]; exact e1
      have t2 : z.tmod 32 = (s : Int) := by rw [Int.tmod_eq_emod_of_nonneg z0]; exact e2
      have t3 : IntKind.i64.wrap (q : Int) = (q : Int) := IntWalk.i64_in _ (by omega)
      have t4 : IntKind.i64.wrap (s : Int) = (s : Int) := IntWalk.i64_in _ (by omega)
      have hql : q < lenN A := by omega
      obtain ⟨ed, he⟩ : ∃ e, l[q]? = some e := ⟨l[q]'(by rw [HN.out]; exact hql), List.getElem?_eq_getElem (by rw [HN.out]; exact hql)⟩
      have HEL := Lib.hid he
      obtain ⟨l1, l2, l3⟩ := lay_dig HO.out.1 he hs (by rw [HV.out]; exact quo_mod A D _)
      have o1 := (one_u32 hs).1
      have o2 := (one_u32 hs).2
      have s1 : (s : Int) < 32 := by omega
      have s0 : (0 : Int) ≤ s := by omega
      have hq0 : (0 : Int) ≤ (q : Int) := by omega
      have hq1 : (q : Int) < (lenN A : Int) := by omega
      have L2 := Lib.hid l2
      have L3 := Lib.hid l3
      have HZ := Lib.hid (show z = ((32 * q + s : Nat) : Int) by omega)
      have HRS := Lib.hid (rest_step A (i := 32 * q + s) HD.out)
      have HQS := Lib.hid (quo_step A (i := 32 * q + s) HD.out)
      have HBN := Lib.hid (bitZ_bitN A (32 * q + s))
      have HLR := Lib.hid (HRL.out (32 * q + s + 1))
      have HLT := Lib.hid (rest_lt A HD.out (32 * q + s + 1))
      have lr : lenN (restN A D (32 * q + s + 1)) ≤ 512 := Nat.le_trans HLR.out lb
      have lr2 : lenN (restN A D (32 * q + s + 1) * 2 ^ 1) ≤ 513 := by
        have := lenN_mul_pow (A := restN A D (32 * q + s + 1)) (n := 1); omega
      have l11 : lenN 1 ≤ 1 := lenN_le 1 1 (by decide)
      have lr3 : lenN (restN A D (32 * q + s + 1) * 2 ^ 1 + 1) ≤ 515 := by
        have := lenN_add (restN A D (32 * q + s + 1) * 2 ^ 1) 1; omega
      have hkz : 32 * q + s + 1 ≤ lenB A := hk
      clear hz he l2 l3 hk
      obtain ⟨Rr, hRr⟩ : ∃ Rr, restN A D (32 * q + s + 1) = Rr := ⟨_, rfl⟩
      rw [hRr] at lr lr2 lr3
      have HRE := Lib.hid hRr
      have HRN := Lib.hid (show IsN wr u Rr by rw [← hRr]; exact HR.out)
      clear hRr HR
      go_wp2_with fail
      refine (refShl_f 1 (by decide) (by decide) _ HRN.out (by omega)).mono ?_
      rintro e w1 ⟨u1, rfl, hN, hf, hb⟩
      have N1 := Lib.hid hN
      have B1 := Lib.hid (HB.out.trans (hb.mono HB.out.size))
      have FR1 := Lib.hid (fun kk hkk => Nat.lt_of_lt_of_le (HSZ.out) (hf kk hkk))
      clear hf
      have O1 := Lib.hid (HO.out.call hb)
      clear hN hb
      cases hbz : bitZ A z with
      | false =>
        have HB2 := Lib.hid (show bitN A (32 * q + s) = 0 by rw [HBN.out, ← HZ.out, hbz]; rfl)
        have cb := refBit_any z (by omega) w1 (HX.out.call B1.out) (by omega)
        rw [hbz] at cb
        have CB := Lib.hid cb
        clear cb hbz
        go_wp2_with fail
        refine (CB.out).mono ?_
        rintro e w' ⟨rfl, rfl⟩
        obtain ⟨V, hV⟩ : ∃ V, Rr * 2 ^ 1 = V := ⟨_, rfl⟩
        have NV := Lib.hid (show IsN w1 u1 V by rw [← hV]; exact N1.out)
        rw [hV] at lr2
        have HVV := Lib.hid hV
        clear hV N1
        by_cases hge : D ≤ V
        · have hc : cmpN (V) D ≥ 0 := by have := @cmp_neg (V) D; omega
          have HGE := Lib.hid hge
          clear hge
          have HON := Lib.hid (show onceB Rr 0 D = true by unfold onceB; have := HGE.out; have := HVV.out; exact decide_eq_true (by omega))
          have HRS2 := Lib.hid (show restN A D (32 * q + s) = V - D by rw [HRS.out, HB2.out, HRE.out]; unfold nextN; rw [HON.out]; simp only [Bool.false_eq_true, if_true, if_false]; have := HVV.out; omega)
          have HQS2 := Lib.hid (show quoN A D (32 * q + s) = quoN A D (32 * q + s + 1) + 2 ^ (32 * q + s) by rw [HQS.out, HB2.out, HRE.out, HON.out]; simp)
          clear HRS HQS HBN HON
          go_wp2_with fail
          refine (refCmp_any _ NV.out (HY.out.call B1.out) (by omega) (by omega)).mono ?_
          rintro e w9 ⟨rfl, hb⟩
          have N9 := Lib.hid (NV.out.call hb)
          have B9 := Lib.hid (B1.out.trans (hb.mono B1.out.size))
          have O9 := Lib.hid (O1.out.call hb)
          clear hb
          go_wp2_with fail
          refine (refSub_f _ N9.out (HY.out.call B9.out) (by omega) (by omega) HGE.out).mono ?_
          rintro e w10 ⟨u10, rfl, hN, hf, hb⟩
          have N10 := Lib.hid hN
          have B10 := Lib.hid (B9.out.trans (hb.mono B9.out.size))
          have FR10 := Lib.hid (fun kk hkk => Nat.lt_of_lt_of_le ((O9.out.2.lt w.heap.size rfl).2) (hf kk hkk))
          clear hf
          have O10 := Lib.hid (O9.out.call hb)
          clear hN hb
          have ce := O10.out.cell HEL.out
          have cf := O10.out.free q
          rw [dv] at ce
          have hlen2 := HN.out
          go_wp2
          refine wp_region_head 12 (fun W' => W'.cell? ⟨w.heap.size, q, none⟩ = some (.int .u32 (ed : Int))) (by kernel_rfl) (by kernel_rfl) (by go_simp) ?_
          simp only [List.take_succ_cons, List.take_zero, List.drop_succ_cons, List.drop_zero]
          refine head_pure ?_ (fun _ _ _ h => h) (Or.inl ⟨by rfl, ?_⟩) ?_
          rotate_left
          · intro w; go_simp; first | done | with_reducible rfl
          simp only [Act.put, List.setIfInBounds_toArray, List.set_cons_zero, List.set_cons_succ]
          refine head_pure ?_ (fun _ _ _ h => h) (Or.inl ⟨by rfl, ?_⟩) ?_
          rotate_left
          · intro w; go_simp; first | done | with_reducible rfl
          simp only [Act.put, List.setIfInBounds_toArray, List.set_cons_zero, List.set_cons_succ]
          refine head_pure ?_ (fun _ _ _ h => h) (Or.inl ⟨by rfl, ?_⟩) ?_
          rotate_left
          · intro w; go_simp; first | done | with_reducible rfl
          simp only [Act.put, List.setIfInBounds_toArray, List.set_cons_zero, List.set_cons_succ]
          refine head_pure ?_ (fun _ _ _ h => h) (Or.inl ⟨by rfl, ?_⟩) ?_
          rotate_left
          · intro w; go_simp; first | done | with_reducible rfl
          simp only [Act.put, List.setIfInBounds_toArray, List.set_cons_zero, List.set_cons_succ]
          refine head_pure ?_ (fun _ _ _ h => h) (Or.inl ⟨by rfl, ?_⟩) ?_
          rotate_left
          · intro w; go_simp; first | done | with_reducible rfl
          simp only [Act.put, List.setIfInBounds_toArray, List.set_cons_zero, List.set_cons_succ]
          refine head_pure ?_ (fun _ _ _ h => h) (Or.inl ⟨by rfl, ?_⟩) ?_
          rotate_left
          · intro w; go_simp; first | done | with_reducible rfl
          simp only [Act.put, List.setIfInBounds_toArray, List.set_cons_zero, List.set_cons_succ]
          refine head_pure ?_ (fun _ _ _ h => h) (Or.inl ⟨by rfl, ?_⟩) ?_
          rotate_left
          · intro w; go_simp; first | done | with_reducible rfl
          simp only [Act.put, List.setIfInBounds_toArray, List.set_cons_zero, List.set_cons_succ]
          refine head_read ?_ (by kernel_rfl) (fun _ _ _ h => h) (Or.inl ⟨by rfl, ?_⟩) ?_
          rotate_left
          · intro w hS; (try dsimp only at hS); go_simp; first | done | with_reducible rfl
          simp only [Act.put, List.setIfInBounds_toArray, List.set_cons_zero, List.set_cons_succ]
          refine head_pure ?_ (fun _ _ _ h => h) (Or.inl ⟨by rfl, ?_⟩) ?_
          rotate_left
          · intro w; go_simp; first | done | with_reducible rfl
          simp only [Act.put, List.setIfInBounds_toArray, List.set_cons_zero, List.set_cons_succ]
          refine head_pure ?_ (fun _ _ _ h => h) (Or.inl ⟨by rfl, ?_⟩) ?_
          rotate_left
          · intro w; go_simp; first | done | with_reducible rfl
          simp only [Act.put, List.setIfInBounds_toArray, List.set_cons_zero, List.set_cons_succ]
          refine head_pure ?_ (fun _ _ _ h => h) (Or.inl ⟨by rfl, ?_⟩) ?_
          rotate_left
          · intro w; go_simp; first | done | with_reducible rfl
          simp only [Act.put, List.setIfInBounds_toArray, List.set_cons_zero, List.set_cons_succ]
          refine head_pure ?_ (fun _ _ _ h => h) (Or.inl ⟨by rfl, ?_⟩) ?_
          rotate_left
          · intro w; go_simp; first | done | with_reducible rfl
          simp only [Act.put, List.setIfInBounds_toArray, List.set_cons_zero, List.set_cons_succ]
          change wpList _ _ _ _ _ _
          go_wp2
          go_roundw
          case rel => exact ⟨32 * q + s, _, _, l.set q (ed + 2 ^ s), rfl, by omega, rfl, by have := HZ.out; omega, by rw [HRS2.out]; exact IsN.other (IsN.drew N10.out) (fun kk hkk => Nat.ne_of_lt (FR10.out kk hkk)), FR10.out, by rw [List.length_set]; exact O10.out.drew.stored q L2.out, by rw [List.length_set]; exact HN.out, Lib.hid (by rw [L3.out, HV.out, HQS2.out]), below_setCell (Below.drew B10.out) (Nat.le_refl _) _⟩
          case measure => simp [intOf]; omega
        · have hc : cmpN (V) D < 0 := by have := @cmp_neg (V) D; omega
          have HGE := Lib.hid hge
          clear hge
          have HON := Lib.hid (show onceB Rr 0 D = false by unfold onceB; have := HGE.out; have := HVV.out; exact decide_eq_false (by omega))
          have HRS2 := Lib.hid (show restN A D (32 * q + s) = V by rw [HRS.out, HB2.out, HRE.out]; unfold nextN; rw [HON.out]; simp only [Bool.false_eq_true, if_true, if_false]; have := HVV.out; omega)
          have HQS2 := Lib.hid (show quoN A D (32 * q + s) = quoN A D (32 * q + s + 1) by rw [HQS.out, HB2.out, HRE.out, HON.out]; simp)
          clear HRS HQS HBN HON
          go_wp2_with fail
          refine (refCmp_any _ NV.out (HY.out.call B1.out) (by omega) (by omega)).mono ?_
          rintro e w9 ⟨rfl, hb⟩
          have N9 := Lib.hid (NV.out.call hb)
          have B9 := Lib.hid (B1.out.trans (hb.mono B1.out.size))
          have O9 := Lib.hid (O1.out.call hb)
          clear hb
          go_wp2
          go_roundw
          case rel => exact ⟨32 * q + s, _, _, l, rfl, by omega, rfl, by have := HZ.out; omega, by rw [HRS2.out]; exact N9.out, FR1.out, O9.out, HN.out, Lib.hid (by rw [HV.out, HQS2.out]), B9.out⟩
          case measure => simp [intOf]; omega
      | true =>
        have HB2 := Lib.hid (show bitN A (32 * q + s) = 1 by rw [HBN.out, ← HZ.out, hbz]; rfl)
        have cb := refBit_any z (by omega) w1 (HX.out.call B1.out) (by omega)
        rw [hbz] at cb
        have CB := Lib.hid cb
        clear cb hbz
        go_wp2_with fail
        refine (CB.out).mono ?_
        rintro e w' ⟨rfl, rfl⟩
        go_wp2_with fail
        refine (refOf_any 1 (by decide) _).mono ?_
        rintro e w2 ⟨u2, rfl, hN, hb⟩
        have hb12 := Lib.hid hb
        have N2 := Lib.hid hN
        have B2 := Lib.hid (B1.out.trans (hb.mono B1.out.size))
        have O2 := Lib.hid (O1.out.call hb)
        clear hN hb
        go_wp2_with fail
        refine (refAdd_f _ (N1.out.call hb12.out) N2.out (by omega) (by omega)).mono ?_
        rintro e w3 ⟨u3, rfl, hN, hf, hb⟩
        have N3 := Lib.hid hN
        have B3 := Lib.hid (B2.out.trans (hb.mono B2.out.size))
        have FR3 := Lib.hid (fun kk hkk => Nat.lt_of_lt_of_le ((O2.out.2.lt w.heap.size rfl).2) (hf kk hkk))
        clear hf
        have O3 := Lib.hid (O2.out.call hb)
        clear hN hb
        obtain ⟨V, hV⟩ : ∃ V, Rr * 2 ^ 1 + 1 = V := ⟨_, rfl⟩
        have NV := Lib.hid (show IsN w3 u3 V by rw [← hV]; exact N3.out)
        rw [hV] at lr3
        have HVV := Lib.hid hV
        clear hV N3
        by_cases hge : D ≤ V
        · have hc : cmpN (V) D ≥ 0 := by have := @cmp_neg (V) D; omega
          have HGE := Lib.hid hge
          clear hge
          have HON := Lib.hid (show onceB Rr 1 D = true by unfold onceB; have := HGE.out; have := HVV.out; exact decide_eq_true (by omega))
          have HRS2 := Lib.hid (show restN A D (32 * q + s) = V - D by rw [HRS.out, HB2.out, HRE.out]; unfold nextN; rw [HON.out]; simp only [Bool.false_eq_true, if_true, if_false]; have := HVV.out; omega)
          have HQS2 := Lib.hid (show quoN A D (32 * q + s) = quoN A D (32 * q + s + 1) + 2 ^ (32 * q + s) by rw [HQS.out, HB2.out, HRE.out, HON.out]; simp)
          clear HRS HQS HBN HON
          go_wp2_with fail
          refine (refCmp_any _ NV.out (HY.out.call B3.out) (by omega) (by omega)).mono ?_
          rintro e w9 ⟨rfl, hb⟩
          have N9 := Lib.hid (NV.out.call hb)
          have B9 := Lib.hid (B3.out.trans (hb.mono B3.out.size))
          have O9 := Lib.hid (O3.out.call hb)
          clear hb
          go_wp2_with fail
          refine (refSub_f _ N9.out (HY.out.call B9.out) (by omega) (by omega) HGE.out).mono ?_
          rintro e w10 ⟨u10, rfl, hN, hf, hb⟩
          have N10 := Lib.hid hN
          have B10 := Lib.hid (B9.out.trans (hb.mono B9.out.size))
          have FR10 := Lib.hid (fun kk hkk => Nat.lt_of_lt_of_le ((O9.out.2.lt w.heap.size rfl).2) (hf kk hkk))
          clear hf
          have O10 := Lib.hid (O9.out.call hb)
          clear hN hb
          have ce := O10.out.cell HEL.out
          have cf := O10.out.free q
          rw [dv] at ce
          have hlen2 := HN.out
          go_wp2
          refine wp_region_head 12 (fun W' => W'.cell? ⟨w.heap.size, q, none⟩ = some (.int .u32 (ed : Int))) (by kernel_rfl) (by kernel_rfl) (by go_simp) ?_
          simp only [List.take_succ_cons, List.take_zero, List.drop_succ_cons, List.drop_zero]
          refine head_pure ?_ (fun _ _ _ h => h) (Or.inl ⟨by rfl, ?_⟩) ?_
          rotate_left
          · intro w; go_simp; first | done | with_reducible rfl
          simp only [Act.put, List.setIfInBounds_toArray, List.set_cons_zero, List.set_cons_succ]
          refine head_pure ?_ (fun _ _ _ h => h) (Or.inl ⟨by rfl, ?_⟩) ?_
          rotate_left
          · intro w; go_simp; first | done | with_reducible rfl
          simp only [Act.put, List.setIfInBounds_toArray, List.set_cons_zero, List.set_cons_succ]
          refine head_pure ?_ (fun _ _ _ h => h) (Or.inl ⟨by rfl, ?_⟩) ?_
          rotate_left
          · intro w; go_simp; first | done | with_reducible rfl
          simp only [Act.put, List.setIfInBounds_toArray, List.set_cons_zero, List.set_cons_succ]
          refine head_pure ?_ (fun _ _ _ h => h) (Or.inl ⟨by rfl, ?_⟩) ?_
          rotate_left
          · intro w; go_simp; first | done | with_reducible rfl
          simp only [Act.put, List.setIfInBounds_toArray, List.set_cons_zero, List.set_cons_succ]
          refine head_pure ?_ (fun _ _ _ h => h) (Or.inl ⟨by rfl, ?_⟩) ?_
          rotate_left
          · intro w; go_simp; first | done | with_reducible rfl
          simp only [Act.put, List.setIfInBounds_toArray, List.set_cons_zero, List.set_cons_succ]
          refine head_pure ?_ (fun _ _ _ h => h) (Or.inl ⟨by rfl, ?_⟩) ?_
          rotate_left
          · intro w; go_simp; first | done | with_reducible rfl
          simp only [Act.put, List.setIfInBounds_toArray, List.set_cons_zero, List.set_cons_succ]
          refine head_pure ?_ (fun _ _ _ h => h) (Or.inl ⟨by rfl, ?_⟩) ?_
          rotate_left
          · intro w; go_simp; first | done | with_reducible rfl
          simp only [Act.put, List.setIfInBounds_toArray, List.set_cons_zero, List.set_cons_succ]
          refine head_read ?_ (by kernel_rfl) (fun _ _ _ h => h) (Or.inl ⟨by rfl, ?_⟩) ?_
          rotate_left
          · intro w hS; (try dsimp only at hS); go_simp; first | done | with_reducible rfl
          simp only [Act.put, List.setIfInBounds_toArray, List.set_cons_zero, List.set_cons_succ]
          refine head_pure ?_ (fun _ _ _ h => h) (Or.inl ⟨by rfl, ?_⟩) ?_
          rotate_left
          · intro w; go_simp; first | done | with_reducible rfl
          simp only [Act.put, List.setIfInBounds_toArray, List.set_cons_zero, List.set_cons_succ]
          refine head_pure ?_ (fun _ _ _ h => h) (Or.inl ⟨by rfl, ?_⟩) ?_
          rotate_left
          · intro w; go_simp; first | done | with_reducible rfl
          simp only [Act.put, List.setIfInBounds_toArray, List.set_cons_zero, List.set_cons_succ]
          refine head_pure ?_ (fun _ _ _ h => h) (Or.inl ⟨by rfl, ?_⟩) ?_
          rotate_left
          · intro w; go_simp; first | done | with_reducible rfl
          simp only [Act.put, List.setIfInBounds_toArray, List.set_cons_zero, List.set_cons_succ]
          refine head_pure ?_ (fun _ _ _ h => h) (Or.inl ⟨by rfl, ?_⟩) ?_
          rotate_left
          · intro w; go_simp; first | done | with_reducible rfl
          simp only [Act.put, List.setIfInBounds_toArray, List.set_cons_zero, List.set_cons_succ]
          change wpList _ _ _ _ _ _
          go_wp2
          go_roundw
          case rel => exact ⟨32 * q + s, _, _, l.set q (ed + 2 ^ s), rfl, by omega, rfl, by have := HZ.out; omega, by rw [HRS2.out]; exact IsN.other (IsN.drew N10.out) (fun kk hkk => Nat.ne_of_lt (FR10.out kk hkk)), FR10.out, by rw [List.length_set]; exact O10.out.drew.stored q L2.out, by rw [List.length_set]; exact HN.out, Lib.hid (by rw [L3.out, HV.out, HQS2.out]), below_setCell (Below.drew B10.out) (Nat.le_refl _) _⟩
          case measure => simp [intOf]; omega
        · have hc : cmpN (V) D < 0 := by have := @cmp_neg (V) D; omega
          have HGE := Lib.hid hge
          clear hge
          have HON := Lib.hid (show onceB Rr 1 D = false by unfold onceB; have := HGE.out; have := HVV.out; exact decide_eq_false (by omega))
          have HRS2 := Lib.hid (show restN A D (32 * q + s) = V by rw [HRS.out, HB2.out, HRE.out]; unfold nextN; rw [HON.out]; simp only [Bool.false_eq_true, if_true, if_false]; have := HVV.out; omega)
          have HQS2 := Lib.hid (show quoN A D (32 * q + s) = quoN A D (32 * q + s + 1) by rw [HQS.out, HB2.out, HRE.out, HON.out]; simp)
          clear HRS HQS HBN HON
          go_wp2_with fail
          refine (refCmp_any _ NV.out (HY.out.call B3.out) (by omega) (by omega)).mono ?_
          rintro e w9 ⟨rfl, hb⟩
          have N9 := Lib.hid (NV.out.call hb)
          have B9 := Lib.hid (B3.out.trans (hb.mono B3.out.size))
          have O9 := Lib.hid (O3.out.call hb)
          clear hb
          go_wp2
          go_roundw
          case rel => exact ⟨32 * q + s, _, _, l, rfl, by omega, rfl, by have := HZ.out; omega, by rw [HRS2.out]; exact N9.out, FR3.out, O9.out, HN.out, Lib.hid (by rw [HV.out, HQS2.out]), B9.out⟩
          case measure => simp [intOf]; omega

/-- a root by bits: the invariant -/
theorem root_start (A : Nat) : A < (0 + 2 ^ (lenB A / 2 + 1)) * (0 + 2 ^ (lenB A / 2 + 1)) := by
  rw [Nat.zero_add, ← Nat.pow_add]
  exact Nat.lt_of_lt_of_le (lt_lenB A) (Nat.pow_le_pow_right (by omega) (by omega))
theorem root_len {A r i : Nat} (h : r * r ≤ A) (la : lenN A ≤ 100) (hi : i ≤ 1600) : lenN r ≤ 100 ∧ lenN (1 * 2 ^ i) ≤ 52 ∧ lenN (r + 1 * 2 ^ i) ≤ 153 ∧ lenN ((r + 1 * 2 ^ i) * (r + 1 * 2 ^ i)) ≤ 306 := by
  have h1 : r ≤ A := by
    rcases r with _ | r
    · omega
    · exact Nat.le_trans (Nat.le_mul_of_pos_left _ (by omega)) h
  have h2 := lenN_mono h1
  have h3 := lenN_mul_pow (A := 1) (n := i)
  have h4 : lenN 1 ≤ 1 := lenN_le 1 1 (by decide)
  have h5 := lenN_add r (1 * 2 ^ i)
  have h6 := lenN_mul (r + 1 * 2 ^ i) (r + 1 * 2 ^ i)
  omega
set_option maxRecDepth 100000 in
set_option maxHeartbeats 8000000 in
theorem refRoot_any {x : Value} {A : Nat} (w : World) (hx : IsN w x A) (la : lenN A ≤ 100) :
    Calls Try.prog 69 #[x] w fun e w' => ∃ u R, e = .returned u ∧ IsN w' u R ∧ R * R ≤ A ∧ A < (R + 1) * (R + 1) ∧ Below w.heap.size w w' := by
  have HX := Lib.hid hx
  clear hx
  have hLB := lenB_len A
  have HS := Lib.hid (root_start A)
  go_enter Try.func69, Try.ntmps69
  go_wp2_with fail
  refine (refLen_any _ HX.out (by omega)).mono ?_
  rintro e w' ⟨rfl, rfl⟩
  obtain ⟨M, hM⟩ : ∃ M, lenB A / 2 = M := ⟨_, rfl⟩
  have eh : ((lenB A : Nat) : Int).tdiv 2 = (M : Int) := by rw [Int.tdiv_eq_ediv_of_nonneg (by omega)]; omega
  have ew : IntKind.i64.wrap (M : Int) = (M : Int) := IntWalk.i64_in _ (by omega)
  rw [hM] at HS
  go_wp2
  go_loopw [3, 4] (fun r i wr => ∃ (k : Nat) (z : Int) (u : Value) (R : Nat), u = r ∧ k ≤ M + 1 ∧ i = .int .i64 z ∧ z = k - 1 ∧ IsN wr u R ∧ Hid (R * R ≤ A) ∧ Hid (A < (R + 2 ^ k) * (R + 2 ^ k)) ∧ Below w.heap.size w wr) (fun _ i _ => (intOf i + 1).toNat)
  case atStart => exact ⟨M + 1, _, _, 0, rfl, by omega, rfl, by omega, isN_nil _, Lib.hid (by omega), Lib.hid HS.out, Below.refl _ _⟩
  case round =>
    clear HS
    obtain ⟨k, z, u, Rr, rfl, hk, rfl, hz, hr, H1, H2, hbel⟩ := hrel
    have HR := Lib.hid hr
    have HB := Lib.hid hbel
    clear hbel hr
    rcases k with _ | j
    · obtain rfl : z = -1 := by omega
      clear hz
      go_wp2
      refine bodyPost_ret (v := u) (by simp [results, Try.results69, go_sem]) rfl ⟨u, Rr, rfl, HR.out, H1.out, ?_, HB.out⟩
      have := H2.out; rwa [Nat.pow_zero] at this
    · have hj : j ≤ 1600 := by omega
      obtain ⟨g1, g2, g3, g4⟩ := root_len H1.out la hj
      obtain rfl : z = (j : Int) := by omega
      clear hz
      go_wp2_with fail
      refine (refOf_any 1 (by decide) _).mono ?_
      rintro e w1 ⟨u1, rfl, hN, hb⟩
      have b1 := Lib.hid hb
      have N1 := Lib.hid hN
      have B1 := Lib.hid (HB.out.trans (hb.mono HB.out.size))
      clear hN hb
      go_wp2_with fail
      refine (refShl_any j rfl (by omega) _ N1.out (by have : lenN 1 ≤ 1 := lenN_le 1 1 (by decide); omega)).mono ?_
      rintro e w2 ⟨u2, rfl, hN, hb⟩
      have b2 := Lib.hid (b1.out.trans (hb.mono b1.out.size))
      have N2 := Lib.hid hN
      have B2 := Lib.hid (B1.out.trans (hb.mono B1.out.size))
      clear hN hb
      go_wp2_with fail
      refine (refAdd_any _ (HR.out.call b2.out) N2.out (by omega) (by omega)).mono ?_
      rintro e w3 ⟨u3, rfl, hN, hb⟩
      have b3 := Lib.hid (b2.out.trans (hb.mono b2.out.size))
      have N3 := Lib.hid hN
      have B3 := Lib.hid (B2.out.trans (hb.mono B2.out.size))
      clear hN hb
      obtain ⟨T, hT⟩ : ∃ T, Rr + 1 * 2 ^ j = T := ⟨_, rfl⟩
      have N3' := Lib.hid (show IsN w3 u3 T by rw [← hT]; exact N3.out)
      clear N3
      rw [hT] at g3 g4
      have HT := Lib.hid hT
      clear hT g2
      go_wp2_with fail
      refine (refMul_any _ N3'.out N3'.out (by omega) (by omega)).mono ?_
      rintro e w4 ⟨u4, rfl, hN, hb⟩
      have b4 := Lib.hid hb
      have N4 := Lib.hid hN
      have B4 := Lib.hid (B3.out.trans (hb.mono B3.out.size))
      clear hN hb
      by_cases hle : T * T ≤ A
      · have hc : cmpN (T * T) A ≤ 0 := by have := @cmp_le (T * T) A; omega
        have HLE := Lib.hid hle
        clear hle
        go_wp2_with fail
        refine (refCmp_any _ N4.out (HX.out.call B4.out) (by omega) (by omega)).mono ?_
        rintro e w9 ⟨rfl, hb⟩
        have b9 := Lib.hid (b4.out.trans (hb.mono b4.out.size))
        have B9 := Lib.hid (B4.out.trans (hb.mono B4.out.size))
        clear hb
        go_wp2
        go_roundw
        case rel => exact ⟨j, _, _, T, rfl, by omega, rfl, by omega, N3'.out.call b9.out, Lib.hid HLE.out, Lib.hid (by have := H2.out; rw [show Rr + 2 ^ (j + 1) = T + 2 ^ j by rw [← HT.out, Nat.pow_succ]; omega] at this; exact this), B9.out⟩
        case measure => simp [intOf] <;> omega
      · have hc : 0 < cmpN (T * T) A := by have := @cmp_le (T * T) A; omega
        have HLE := Lib.hid hle
        clear hle
        go_wp2_with fail
        refine (refCmp_any _ N4.out (HX.out.call B4.out) (by omega) (by omega)).mono ?_
        rintro e w9 ⟨rfl, hb⟩
        have b9 := Lib.hid (b4.out.trans (hb.mono b4.out.size))
        have B9 := Lib.hid (B4.out.trans (hb.mono B4.out.size))
        clear hb
        go_wp2
        go_roundw
        case rel => exact ⟨j, _, _, Rr, rfl, by omega, rfl, by omega, HR.out.call (b3.out.trans (b9.out.mono b3.out.size)), Lib.hid H1.out, Lib.hid (by rw [show Rr + 2 ^ j = T by rw [← HT.out]; omega]; have := HLE.out; omega), B9.out⟩
        case measure => simp [intOf] <;> omega
end Go.Proofs.Ytglagdmfplgfaaa
