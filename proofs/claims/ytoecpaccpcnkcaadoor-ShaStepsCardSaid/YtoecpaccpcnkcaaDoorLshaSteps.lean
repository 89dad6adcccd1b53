/- Any block's step is the document's, for every input; it narrows nothing. -/
import Derived.Test.YtoecpaccpcnkcaaDoorD
import Derived.Test.YtoecpaccpcnkcaaDoorRows
import Derived.Test.YtoecpaccpcnkcaaDoorVcF
import Derived.Test.YtoecpaccpcnkcaaDoorCards
import Derived.Test.YtoecpaccpcnkcaaDoorTie
import Derived.SevenTiedAt
set_option linter.unusedVariables false
set_option linter.unusedSimpArgs false
set_option maxRecDepth 100000
namespace Go.Proofs.YtoecpaccpcnkcaaDoor
open Go.Vc
open Go.ChangeShapes Go.WideShapes Go.ChangeAt Go.RowKit
theorem wlaw04_ShaSteps (x : DenL [tW8, tK64, tS32]) : Owes Tryd.prog (cfgOf Qref04_Text) (Llaw04_ShaSteps x.1 x.2.1 x.2.2) 7 (argVs [tW8, tK64, tS32] x) [] (sayTrue [tW8, tK64, tS32] x) = vclaw04_ShaSteps x.1 x.2.1 x.2.2 := by kernel_rfl
theorem qlaw04_ShaSteps : Pok 7 [tW8, tK64, tS32] (fun x => sayTrue [tW8, tK64, tS32] x) := by
  refine pk (L := fun x => Llaw04_ShaSteps x.1 x.2.1 x.2.2) (l := Qref04_Text) aQref04_Text (fun _ => rfl) ?_
  intro x hv hp
  have hs : ShortL [tW8, tK64, tS32] x := hp _ (by simp [sayTrue])
  rw [wlaw04_ShaSteps]
  exact oklaw04_ShaSteps x.1 x.2.1 x.2.2 hv.1 hv.2.1
theorem own_ : ownKnob Tryd.prog.godebug = none := by kernel_rfl
theorem laid_ : laidOutB Tryd.prog = true := by kernel_rfl
theorem tys7 : tysB Tryd.prog Tryd.f7.params.toList [tW8, tK64, tS32] = true := by kernel_rfl
theorem spec7 : ∀ (H : Type) (ds : List (DataW H)), ds.length = [tW8, tK64, tS32].length → Rows.shaStepsSpec.fn H ds = { results := [.lit (.bool true)], args := ds } := by
  intro H ds h
  match ds, h with
  | [_, _, _], _ => rfl
theorem bool4 : Tryd.prog.underlying 4 = some .bool := by kernel_rfl
theorem door_met (os : Os) (args : Array Value) : laidMetH Tryd.prog Rows.shaStepsRow.laid ((World.doorLaid Tryd.prog 4000 os).forCall (fun _ _ => 0) ⟨#[], args, []⟩).memory :=
  laidMetH_of_parts3 (fuel := 8) (laidMet_of_run' 8 (by kernel_rfl) (by kernel_rfl)) (by kernel_rfl) (by kernel_rfl)
theorem globs : GlobsAre Tryd.prog Rows.shaStepsRow.laid gl := by
  intro g t x h
  unfold gl at h
  by_cases h0 : g = 0
  · subst h0; cases (show some _ = some (⟨t, x⟩ : Sigma Ty.den) from h); exact ⟨"escheat/sha.first", Rows.laid_escheat_sha_first, ((Tryd.prog.globals[0]?).map (·.type)).getD 0, by unfold Rows.shaStepsRow; simp, by kernel_rfl, by kernel_rfl, by kernel_rfl, by kernel_rfl⟩
  by_cases h1 : g = 1
  · subst h1; cases (show some _ = some (⟨t, x⟩ : Sigma Ty.den) from h); exact ⟨"escheat/sha.roots", Rows.laid_escheat_sha_roots, ((Tryd.prog.globals[1]?).map (·.type)).getD 0, by unfold Rows.shaStepsRow; simp, by kernel_rfl, by kernel_rfl, by kernel_rfl, by kernel_rfl⟩
  rw [show Nat.beq g 0 = false from by cases hb : Nat.beq g 0 with | true => exact absurd (Nat.eq_of_beq_eq_true hb) h0 | false => rfl, show Nat.beq g 1 = false from by cases hb : Nat.beq g 1 with | true => exact absurd (Nat.eq_of_beq_eq_true hb) h1 | false => rfl] at h; cases h
theorem lifted7 (os : Os) (started : os.Started) (H : Type) (enc : TypeId × Value → H) :
    ReturnsInHanded {} Tryd.checked os 7 .any (fun w args => (Rows.shaStepsSpec.pre enc Tryd.prog Tryd.f7 [] false w args ∧ laidMetH Tryd.prog Rows.shaStepsRow.laid w) ∧ sizedMet enc Tryd.prog Tryd.f7 (OpenSpec.ofChange Rows.shaStepsSpec) false w args) (Rows.shaStepsSpec.post enc Tryd.prog Tryd.f7 false true false false) :=
  law_step_laid (C := Tryd.checked) (T := 4) (laid := Rows.shaStepsRow.laid) (gl := gl) [tW8, tK64, tS32] own_ (by kernel_rfl) Tryd.func7 (by kernel_rfl) (by kernel_rfl) laid_ rfl tys7 (by kernel_rfl) bool4 spec7 qlaw04_ShaSteps (by kernel_rfl) globs os started H enc
    (ChangeSpec.witness_shaped (enc := enc) (C := Tryd.checked) (os := os) (X := fun w _ => laidMetH Tryd.prog Rows.shaStepsRow.laid w) false (World.doorLaid Tryd.prog 4000 os) #[.agg #[.int .u32 0, .int .u32 0, .int .u32 0, .int .u32 0, .int .u32 0, .int .u32 0, .int .u32 0, .int .u32 0], .agg #[.int .u8 0, .int .u8 0, .int .u8 0, .int .u8 0, .int .u8 0, .int .u8 0, .int .u8 0, .int .u8 0, .int .u8 0, .int .u8 0, .int .u8 0, .int .u8 0, .int .u8 0, .int .u8 0, .int .u8 0, .int .u8 0, .int .u8 0, .int .u8 0, .int .u8 0, .int .u8 0, .int .u8 0, .int .u8 0, .int .u8 0, .int .u8 0, .int .u8 0, .int .u8 0, .int .u8 0, .int .u8 0, .int .u8 0, .int .u8 0, .int .u8 0, .int .u8 0, .int .u8 0, .int .u8 0, .int .u8 0, .int .u8 0, .int .u8 0, .int .u8 0, .int .u8 0, .int .u8 0, .int .u8 0, .int .u8 0, .int .u8 0, .int .u8 0, .int .u8 0, .int .u8 0, .int .u8 0, .int .u8 0, .int .u8 0, .int .u8 0, .int .u8 0, .int .u8 0, .int .u8 0, .int .u8 0, .int .u8 0, .int .u8 0, .int .u8 0, .int .u8 0, .int .u8 0, .int .u8 0, .int .u8 0, .int .u8 0, .int .u8 0, .int .u8 0], .agg #[.int .u8 0, .int .u8 0, .int .u8 0, .int .u8 0, .int .u8 0, .int .u8 0, .int .u8 0, .int .u8 0, .int .u8 0, .int .u8 0, .int .u8 0, .int .u8 0, .int .u8 0, .int .u8 0, .int .u8 0, .int .u8 0, .int .u8 0, .int .u8 0, .int .u8 0, .int .u8 0, .int .u8 0, .int .u8 0, .int .u8 0, .int .u8 0, .int .u8 0, .int .u8 0, .int .u8 0, .int .u8 0, .int .u8 0, .int .u8 0, .int .u8 0, .int .u8 0]] 8 rfl (World.shaped_of_RefB (by kernel_rfl) (by kernel_rfl)) (by kernel_rfl) (by kernel_rfl) (by kernel_rfl) (door_met os _))
theorem shaSteps_row : Rows.ShaStepsSaid :=
  OpenClaim.holds_of_wide 7 Tryd.f7 rfl rfl rfl rfl rfl rfl rfl ⟨rfl, rfl, rfl, rfl, rfl⟩ rfl rfl rfl rfl rfl (by kernel_rfl) Tryd.func7 (by kernel_rfl)
    (of_decide_eq_true (by kernel_rfl)) (by unfold Func.isWrapper; first | (rw [if_pos (by decide +kernel)]; kernel_rfl) | (rw [if_neg (by decide +kernel)]; exact ⟨rfl, rfl⟩))
    (fun os started H enc _ => lifted7 os started H enc)
theorem wants7 : (Tryd.f7.params.toList.all fun t => !Tryd.prog.wantsStandIn t) = true := by kernel_rfl
theorem shaSteps_card : Rows.ShaStepsCardSaid :=
  Claim7.holds_tied_plain_at .later [] [.data, .data] true (true, "fa6f774985376a15d10e77a3bf227e7d984742021b3a011dcb08a7f38da6ac57") false
    shaSteps_row (fun _ h => by cases h) (by kernel_rfl) (fun _ h => by cases h) shaSteps_row_tie rfl ⟨rfl, rfl⟩ (by kernel_rfl) rfl
    (fun f fn hf hfn => by
      obtain rfl : f = 7 := Option.some.inj ((show Tryd.prog.funcNamed "escheat/escheatlaw04.ShaSteps" = some 7 by kernel_rfl).symm.trans hf) |>.symm
      obtain rfl : fn = Tryd.f7 := (Option.some.inj (Tryd.func7.symm.trans hfn)).symm
      refine ⟨by kernel_rfl, fun j t ht => ?_⟩
      have hm := List.all_eq_true.1 wants7 t (by rw [← Array.getElem?_toList] at ht; exact List.mem_of_getElem? ht)
      exact (show Tryd.prog.wantsStandIn t = false by simpa using hm))
    (by kernel_rfl)
end Go.Proofs.YtoecpaccpcnkcaaDoor
