/- The contracts of package mode: Known, rules, Next, Of, Mirror, Infinite: each answers what its Lean function says, and old memory is as it was. -/
import Derived.Test.YtglagdmfplgfaaaRows
import Derived.Test.YtglagdmfplgfaaaMaps
import Derived.Test.YtglagdmfplgfaaaKept
import Derived.WalkKit
import Derived.WalkSpells
import Derived.WalkLawsBesides
set_option linter.unusedVariables false
set_option linter.unusedSimpArgs false
namespace Go.Proofs.Ytglagdmfplgfaaa
open Go.RowKit Go.Maps

/-- the answer of Next -/
def nextB (m : Int) (neg odd : Bool) (r : Int) : Bool :=
  decide (1 ≤ r ∧ r ≤ 3) && ((decide (m = 0) && (decide (r = 3) || (decide (r = 2) && odd))) || (decide (m = 1) && decide (2 ≤ r)) || (decide (m = 2) && !neg) || (decide (m = 3) && neg))

abbrev ruleF (k : Nat) : Value := .func (.func k) #[] #[]
abbrev rulesTab : Array MapEntry := #[⟨.int .u8 0, ruleF 97, 0⟩, ⟨.int .u8 1, ruleF 98, 1⟩, ⟨.int .u8 2, ruleF 99, 2⟩, ⟨.int .u8 3, ruleF 100, 3⟩, ⟨.int .u8 4, ruleF 101, 4⟩]

set_option maxHeartbeats 400000 in
theorem rules_any (w : World) :
    Calls Try.prog 83 #[] w fun e w' => e = .returned (.map (some w.heap.size)) ∧ w' = w.alloc (.map rulesTab 5) := by
  have hmm := @run_makeMap Try.prog
  have hi := @run_insert_last Try.prog _ _ _ _ Try.underlying106 Try.underlying42 w
  have h0 := hi #[] 0 0 (ruleF 97) rfl
  have h1 := hi #[⟨.int .u8 0, ruleF 97, 0⟩] 1 1 (ruleF 98) rfl
  have h2 := hi #[⟨.int .u8 0, ruleF 97, 0⟩, ⟨.int .u8 1, ruleF 98, 1⟩] 2 2 (ruleF 99) rfl
  have h3 := hi #[⟨.int .u8 0, ruleF 97, 0⟩, ⟨.int .u8 1, ruleF 98, 1⟩, ⟨.int .u8 2, ruleF 99, 2⟩] 3 3 (ruleF 100) rfl
  have h4 := hi #[⟨.int .u8 0, ruleF 97, 0⟩, ⟨.int .u8 1, ruleF 98, 1⟩, ⟨.int .u8 2, ruleF 99, 2⟩, ⟨.int .u8 3, ruleF 100, 3⟩] 4 4 (ruleF 101) rfl
  clear hi
  go_enter Try.func83, Try.ntmps83
  go_wp2
  go_ret
  exact ⟨rfl, rfl⟩

theorem Known_any (m : Int) (w : World) :
    Calls Try.prog 56 #[.int .u8 m] w fun e w' => e = .returned (.bool (decide (m ≤ 4))) ∧ w = w' := by
  go_enter Try.func56, Try.ntmps56
  go_wp2
  go_ret
  exact ⟨rfl, rfl⟩

theorem zeroFn (w : World) : (zeroValue 104).run Try.prog w = .ok .nilFunc w := by kernel_rfl

theorem look_at (w : World) (m : Int) (i : Nat) (v : Value) (hf : Instr.findNow (.int .u8) (.int .u8 m) rulesTab.toList 0 = some (some (i, v))) :
    (Instr.lookup 106 (.map (some w.heap.size)) (.int .u8 m) true).run Try.prog (w.alloc (.map rulesTab 5)) = .ok (.tuple #[v, .bool true]) (w.alloc (.map rulesTab 5)) :=
  run_lookup_some Try.underlying106 Try.underlying42 _ _ rulesTab 5 (MapKept.heap_alloc w _).1 m i v hf
theorem look_no (w : World) (m : Int) (hm : 5 ≤ m) :
    (Instr.lookup 106 (.map (some w.heap.size)) (.int .u8 m) true).run Try.prog (w.alloc (.map rulesTab 5)) = .ok (.tuple #[.nilFunc, .bool false]) (w.alloc (.map rulesTab 5)) :=
  run_lookup_none Try.underlying106 Try.underlying42 zeroFn _ _ rulesTab 5 (MapKept.heap_alloc w _).1 m (by
    have e0 : (m == 0) = false := beq_eq_false_iff_ne.2 (by omega)
    have e1 : (m == 1) = false := beq_eq_false_iff_ne.2 (by omega)
    have e2 : (m == 2) = false := beq_eq_false_iff_ne.2 (by omega)
    have e3 : (m == 3) = false := beq_eq_false_iff_ne.2 (by omega)
    have e4 : (m == 4) = false := beq_eq_false_iff_ne.2 (by omega)
    simp [rulesTab, Instr.findNow, Instr.sameNow, e0, e1, e2, e3, e4])

theorem rule1_any (a odd : Bool) (r : Int) (w : World) :
    Calls Try.prog 97 #[.bool a, .bool odd, .int .u8 r] w fun e w' => e = .returned (.bool (decide (r = 3) || (decide (r = 2) && odd))) ∧ w = w' := by
  go_enter Try.func97, Try.ntmps97
  go_wp2
  all_goals go_ret
  all_goals exact ⟨ret_bool (by cases odd <;> simp_all), rfl⟩
theorem rule2_any (a b : Bool) (r : Int) (w : World) :
    Calls Try.prog 98 #[.bool a, .bool b, .int .u8 r] w fun e w' => e = .returned (.bool (decide (2 ≤ r))) ∧ w = w' := by
  go_enter Try.func98, Try.ntmps98
  go_wp2
  go_ret
  exact ⟨rfl, rfl⟩
theorem rule3_any (a b : Bool) (r : Int) (w : World) :
    Calls Try.prog 99 #[.bool a, .bool b, .int .u8 r] w fun e w' => e = .returned (.bool (!a)) ∧ w = w' := by
  go_enter Try.func99, Try.ntmps99
  go_wp2
  go_ret
  exact ⟨rfl, rfl⟩
theorem rule4_any (a b : Bool) (r : Int) (w : World) :
    Calls Try.prog 100 #[.bool a, .bool b, .int .u8 r] w fun e w' => e = .returned (.bool a) ∧ w = w' := by
  go_enter Try.func100, Try.ntmps100
  go_wp2
  go_ret
  exact ⟨rfl, rfl⟩
theorem rule5_any (a b : Bool) (r : Int) (w : World) :
    Calls Try.prog 101 #[.bool a, .bool b, .int .u8 r] w fun e w' => e = .returned (.bool false) ∧ w = w' := by
  go_enter Try.func101, Try.ntmps101
  go_wp2
  go_ret
  exact ⟨rfl, rfl⟩

set_option maxRecDepth 100000 in
set_option maxHeartbeats 400000 in
theorem Next_0 (neg odd : Bool) (r : Int) (h0 : 0 ≤ r) (w : World) :
    Calls Try.prog 58 #[.int .u8 0, .bool neg, .bool odd, .int .u8 r] w fun e w' => e = .returned (.bool (nextB 0 neg odd r)) ∧ Below w.heap.size w w' := by
  have hl := look_at w 0 0 (ruleF 97) rfl
  go_enter Try.func58, Try.ntmps58
  go_wp2_with (first | (go_at_call 83; refine (rules_any _).mono ?_; rintro e w' ⟨rfl, rfl⟩) | (go_at_call 97; refine (rule1_any _ _ _ _).mono ?_; rintro e w' ⟨rfl, rfl⟩))
  all_goals go_ret
  all_goals refine ⟨ret_bool ?_, (Below.refl _ _).alloc (Nat.le_refl _) _⟩
  all_goals simp [nextB]
  all_goals (try omega)
set_option maxRecDepth 100000 in
set_option maxHeartbeats 400000 in
theorem Next_1 (neg odd : Bool) (r : Int) (h0 : 0 ≤ r) (w : World) :
    Calls Try.prog 58 #[.int .u8 1, .bool neg, .bool odd, .int .u8 r] w fun e w' => e = .returned (.bool (nextB 1 neg odd r)) ∧ Below w.heap.size w w' := by
  have hl := look_at w 1 1 (ruleF 98) rfl
  go_enter Try.func58, Try.ntmps58
  go_wp2_with (first | (go_at_call 83; refine (rules_any _).mono ?_; rintro e w' ⟨rfl, rfl⟩) | (go_at_call 98; refine (rule2_any _ _ _ _).mono ?_; rintro e w' ⟨rfl, rfl⟩))
  all_goals go_ret
  all_goals refine ⟨ret_bool ?_, (Below.refl _ _).alloc (Nat.le_refl _) _⟩
  all_goals simp [nextB]
  all_goals (try omega)
set_option maxRecDepth 100000 in
set_option maxHeartbeats 400000 in
theorem Next_2 (neg odd : Bool) (r : Int) (h0 : 0 ≤ r) (w : World) :
    Calls Try.prog 58 #[.int .u8 2, .bool neg, .bool odd, .int .u8 r] w fun e w' => e = .returned (.bool (nextB 2 neg odd r)) ∧ Below w.heap.size w w' := by
  have hl := look_at w 2 2 (ruleF 99) rfl
  go_enter Try.func58, Try.ntmps58
  go_wp2_with (first | (go_at_call 83; refine (rules_any _).mono ?_; rintro e w' ⟨rfl, rfl⟩) | (go_at_call 99; refine (rule3_any _ _ _ _).mono ?_; rintro e w' ⟨rfl, rfl⟩))
  all_goals go_ret
  all_goals refine ⟨ret_bool ?_, (Below.refl _ _).alloc (Nat.le_refl _) _⟩
  all_goals simp [nextB]
  all_goals (try omega)
set_option maxRecDepth 100000 in
set_option maxHeartbeats 400000 in
theorem Next_3 (neg odd : Bool) (r : Int) (h0 : 0 ≤ r) (w : World) :
    Calls Try.prog 58 #[.int .u8 3, .bool neg, .bool odd, .int .u8 r] w fun e w' => e = .returned (.bool (nextB 3 neg odd r)) ∧ Below w.heap.size w w' := by
  have hl := look_at w 3 3 (ruleF 100) rfl
  go_enter Try.func58, Try.ntmps58
  go_wp2_with (first | (go_at_call 83; refine (rules_any _).mono ?_; rintro e w' ⟨rfl, rfl⟩) | (go_at_call 100; refine (rule4_any _ _ _ _).mono ?_; rintro e w' ⟨rfl, rfl⟩))
  all_goals go_ret
  all_goals refine ⟨ret_bool ?_, (Below.refl _ _).alloc (Nat.le_refl _) _⟩
  all_goals simp [nextB]
  all_goals (try omega)
set_option maxRecDepth 100000 in
set_option maxHeartbeats 400000 in
theorem Next_4 (neg odd : Bool) (r : Int) (h0 : 0 ≤ r) (w : World) :
    Calls Try.prog 58 #[.int .u8 4, .bool neg, .bool odd, .int .u8 r] w fun e w' => e = .returned (.bool (nextB 4 neg odd r)) ∧ Below w.heap.size w w' := by
  have hl := look_at w 4 4 (ruleF 101) rfl
  go_enter Try.func58, Try.ntmps58
  go_wp2_with (first | (go_at_call 83; refine (rules_any _).mono ?_; rintro e w' ⟨rfl, rfl⟩) | (go_at_call 101; refine (rule5_any _ _ _ _).mono ?_; rintro e w' ⟨rfl, rfl⟩))
  all_goals go_ret
  all_goals refine ⟨ret_bool ?_, (Below.refl _ _).alloc (Nat.le_refl _) _⟩
  all_goals simp [nextB]
  all_goals (try omega)
set_option maxRecDepth 100000 in
set_option maxHeartbeats 400000 in
theorem Next_5 (m : Int) (hm : 5 ≤ m) (neg odd : Bool) (r : Int) (h0 : 0 ≤ r) (w : World) :
    Calls Try.prog 58 #[.int .u8 m, .bool neg, .bool odd, .int .u8 r] w fun e w' => e = .returned (.bool (nextB m neg odd r)) ∧ Below w.heap.size w w' := by
  have hl := look_no w m hm
  go_enter Try.func58, Try.ntmps58
  go_wp2_with (first | (go_at_call 83; refine (rules_any _).mono ?_; rintro e w' ⟨rfl, rfl⟩))
  all_goals go_ret
  all_goals refine ⟨ret_bool ?_, (Below.refl _ _).alloc (Nat.le_refl _) _⟩
  all_goals simp [nextB]
  all_goals (try omega)

theorem Next_any (m : Int) (neg odd : Bool) (r : Int) (hm : 0 ≤ m) (h0 : 0 ≤ r) (w : World) :
    Calls Try.prog 58 #[.int .u8 m, .bool neg, .bool odd, .int .u8 r] w fun e w' => e = .returned (.bool (nextB m neg odd r)) ∧ Below w.heap.size w w' := by
  by_cases e5 : 5 ≤ m
  · exact Next_5 m e5 neg odd r h0 w
  · have : m = 0 ∨ m = 1 ∨ m = 2 ∨ m = 3 ∨ m = 4 := by omega
    rcases this with rfl | rfl | rfl | rfl | rfl
    · exact Next_0 neg odd r h0 w
    · exact Next_1 neg odd r h0 w
    · exact Next_2 neg odd r h0 w
    · exact Next_3 neg odd r h0 w
    · exact Next_4 neg odd r h0 w

def ofI (half below : Bool) : Int := if half && below then 3 else if half then 2 else if below then 1 else 0
def mirrorI (m : Int) : Int := if m = 2 then 3 else if m = 3 then 2 else m

theorem Of_any (a b : Bool) (w : World) :
    Calls Try.prog 61 #[.bool a, .bool b] w fun e w' => e = .returned (.int .u8 (ofI a b)) ∧ w = w' := by
  cases a <;> cases b <;>
  · go_enter Try.func61, Try.ntmps61
    go_wp2
    go_ret
    exact ⟨rfl, rfl⟩
end Go.Proofs.Ytglagdmfplgfaaa
