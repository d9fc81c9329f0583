/- script.Run of the script that hairsbreadthtop.wakes runs. -/
import Derived.Test.YtpfoifflfgiaoaaGreatDoorK41
import Derived.Test.YtpfoifflfgiaoaaGreatDoorK27
import Derived.Test.YtpfoifflfgiaoaaGreatDoorK28
import Derived.Test.YtpfoifflfgiaoaaGreatDoorK42
set_option linter.unusedVariables false
set_option linter.unusedSimpArgs false
namespace Go.Proofs.YtpfoifflfgiaoaaGreatDoor
open Go Go.RowKit Go.MapKept

/-- the package-level variables that are read -/
def G1 : Glob := (4, namesL) :: G0
/-- functions without a body; the deferred function -/
def countV (s : ByteArray) (c : Int) : Int := s.foldl (fun (n : Int) x => if x == c.toNat.toUInt8 then n + 1 else n) ((0 : Nat) : Int)
def ext1 : Ext := fun f args =>
  if f = 244 then match args with
    | [.v (.string s), .n .u8 c] => some (.n .i64 (countV s c))
    | _ => none
  else if f = 284 then match args with
    | [.v (.string s), .n .u8 c] => some (.n .i64 (firstIdx s c.toNat.toUInt8))
    | _ => none
  else if f = 133 then match args with
    | [x] => some x
    | _ => none
  else if f = 130 then match args with
    | [_, _] => some (.t [])
    | _ => none
  else none
theorem run_count (s : ByteArray) (c : Int) (w : World) : (Extern.BytealgCount.count #[.string s, .int .u8 c]).run Tryz.prog w = .ok (.int .i64 (countV s c)) w := by
  change Sem.run Tryz.prog (do
    let b ← Extern.Bytes.bytesOf (.string s)
    let c ← Extern.Bytes.asByte (.int .u8 c)
    pure (goInt (b.foldl (fun n x => if x == c then n + 1 else n) (0 : Nat)))) w = _
  simp only [Extern.Bytes.bytesOf, Extern.Bytes.asByte, Sem.run_bind, Sem.run_pure, Result.andThen_ok]
  rfl
theorem body_of {P : Program} {f : FuncId} {fn fn' : Func} (h : P.funcs[f]? = some fn) (h' : P.funcs[f]? = some fn') : fn = fn' := Option.some.inj (h.symm.trans h')
theorem ext1_ok : ExtOk Tryz.prog ext1 := by
  refine ⟨fun f fn args r e w hf hb hx => ?_, fun f fn args r e w hf hb hx => ?_⟩
  · unfold ext1 at hx
    split at hx
    · rename_i h; subst h
      split at hx <;> try cases hx
      rw [run_callFunc_extern Tryz.func244 (by kernel_rfl) (by kernel_rfl) (by kernel_rfl) (e := Extern.BytealgCount.count) (by kernel_rfl)]
      simp only [denL, AV.den, run_count, Result.andThen_ok]
    split at hx
    · rename_i h; subst h
      split at hx <;> try cases hx
      rw [run_callFunc_extern Tryz.func284 (by kernel_rfl) (by kernel_rfl) (by kernel_rfl) (e := Extern.BytealgIndexByte.indexByte) (by kernel_rfl)]
      simp only [denL, AV.den, run_indexByte_string, Result.andThen_ok]
    split at hx
    · rename_i h; subst h
      split at hx <;> try cases hx
      rw [run_callFunc_extern Tryz.func133 (by kernel_rfl) (by kernel_rfl) (by kernel_rfl) (e := Extern.AbiNoEscape.same) (by kernel_rfl)]
      rfl
    split at hx
    · rename_i h; subst h
      rw [body_of hf Tryz.func130] at hb
      cases hb
    · cases hx
  · unfold ext1 at hx
    split at hx
    · rename_i h; subst h
      rw [body_of hf Tryz.func244] at hb
      cases hb
    split at hx
    · rename_i h; subst h
      rw [body_of hf Tryz.func284] at hb
      cases hb
    split at hx
    · rename_i h; subst h
      rw [body_of hf Tryz.func133] at hb
      cases hb
    split at hx
    · rename_i h; subst h
      split at hx <;> try cases hx
      rename_i x y
      exact cmd1_idle _ _ w
    · cases hx
theorem GOk.sub {G G' : Glob} {B : Nat} {w : World} (h : GOk G B w) (hs : ∀ g ∈ G', g ∈ G) : GOk G' B w := fun g hg => h g (hs g hg)
theorem sub01 : ∀ g ∈ G0, g ∈ G1 := fun g hg => List.mem_cons_of_mem _ hg
theorem lit_bad : Says Tryz.prog G0 5 [litE 77 0 0 0] (litO 1 0 0) :=
  (run_none (mkA 77 0 0 0 0 0 0 0 0 0 0) (.inr (by decide))).congr (den_any ⟨by decide, by decide, by decide, by decide, by decide, u64_zero, u64_zero, u64_zero, u64_zero, u64_zero, u64_zero⟩) fun e => rfl
/-- known entries -/
def knownE (op a b c : Int) : Option AV :=
  if op = 1 ∧ a = 15360 ∧ b = 15360 ∧ c = 0 then some (litO 0 16384 0)
  else if op = 4 ∧ a = 15360 ∧ b = 16896 ∧ c = 0 then some (litO 0 13653 16)
  else if op = 6 ∧ a = 15361 ∧ b = 15361 ∧ c = 48130 then some (litO 0 16 0)
  else if op = 5 ∧ a = 16384 ∧ b = 0 ∧ c = 0 then some (litO 0 15784 16)
  else if op = 77 ∧ a = 0 ∧ b = 0 ∧ c = 0 then some (litO 1 0 0)
  else none
theorem knownE_ok {op a b c : Int} {r : AV} (h : knownE op a b c = some r) : Says Tryz.prog G0 5 [litE op a b c] r := by
  unfold knownE at h
  split at h
  · rename_i hh; obtain ⟨rfl, rfl, rfl, rfl⟩ := hh; obtain rfl := Option.some.inj h; exact lit_add
  split at h
  · rename_i hh; obtain ⟨rfl, rfl, rfl, rfl⟩ := hh; obtain rfl := Option.some.inj h; exact lit_div
  split at h
  · rename_i hh; obtain ⟨rfl, rfl, rfl, rfl⟩ := hh; obtain rfl := Option.some.inj h; exact lit_fma
  split at h
  · rename_i hh; obtain ⟨rfl, rfl, rfl, rfl⟩ := hh; obtain rfl := Option.some.inj h; exact lit_sqrt
  split at h
  · rename_i hh; obtain ⟨rfl, rfl, rfl, rfl⟩ := hh; obtain rfl := Option.some.inj h; exact lit_bad
  · cases h
/-- the oracles: numbers; flags put together; the last flag told -/
def orcV : Orc := fun f args h =>
  if f = 7 then match args with
    | [.s k 0 2 _] => match h[k]? with
      | some b => match b.seen with
        | some (.n .u8 s :: .n .u8 t :: _) => some (.n .u8 (joinI s t), [])
        | _ => none
      | none => none
    | _ => none
  else if f = 207 then match args with
    | [.n .u8 16] => some (.v lastName, [])
    | _ => none
  else if f = 5 then match args with
    | [.a [.n .u8 op, .n .u8 0, .n .u8 0, .n .u8 0, .n .u8 0, .n .u64 0, .n .u64 a, .n .u64 0, .n .u64 b, .n .u64 0, .n .u64 c]] => match knownE op a b c with
      | some r => some (r, [])
      | none => none
    | _ => none
  else none
theorem orcV_ok {B : Nat} {W : World} (hG : GOk G1 B W) : OrcOk Tryz.prog B W orcV := by
  intro f args h r ob hr ho e w hs hb
  unfold orcV at hr
  split at hr
  · rename_i hf; subst hf
    split at hr <;> try cases hr
    rename_i k c
    split at hr <;> try cases hr
    rename_i b hk
    split at hr <;> try cases hr
    rename_i s t l hl
    have h0 := seen_cell hs hk hl 0 _ rfl
    have h1 := seen_cell hs hk hl 1 _ rfl
    exact (Join_any (e.β k) _ s t w h0 h1).mono fun en w' h => h
  split at hr
  · rename_i hf; subst hf
    split at hr <;> try cases hr
    have hg := (hG.below hb hs.size) (4, namesL) (List.mem_cons_self ..)
    exact (Told_last w fun i v hv => hg.2 i v hv).mono fun en w' h => h
  split at hr
  · rename_i hf; subst hf
    split at hr <;> try cases hr
    rename_i op a b c
    split at hr <;> try cases hr
    rename_i hk
    exact (knownE_ok hk) e w ((hG.below hb hs.size).sub sub01)
  · cases hr
theorem litG1 : litG G1 = true := by kernel_rfl
def scriptT : ByteArray := ⟨#[115, 113, 114, 116, 32, 98, 49, 54, 32, 52, 48, 48, 48, 10]⟩
def scriptR : AV := .t [.v (.string ⟨#[49, 32, 48, 10, 32, 32, 51, 100, 97, 56, 32, 105, 110, 101, 120, 97, 99, 116, 10]⟩), .n .i64 0, .n .i64 0]
theorem script_says : Says Tryz.prog G1 20 [.v (.string scriptT)] scriptR := says_plain ext1_ok noNG litG1 (fun B W hG => orcV_ok hG) (by rfl) (by kernel_rfl)
end Go.Proofs.YtpfoifflfgiaoaaGreatDoor
