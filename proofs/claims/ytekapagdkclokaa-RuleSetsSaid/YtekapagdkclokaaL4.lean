/- Any rules get any seconds as law RuleSets says, for every input; it narrows nothing. -/
import Derived.Test.YtekapagdkclokaaE
import Derived.Test.YtekapagdkclokaaRows
set_option linter.unusedVariables false
set_option linter.unusedSimpArgs false
set_option maxRecDepth 100000
namespace Go.Proofs.Ytekapagdkclokaa
open Go.Vc
open Go.ChangeShapes Go.WideShapes Go.ChangeAt Go.RowKit
theorem w4 (x : DenL [tRules, .str, .int .i64]) : Owes Try.prog (cfgOf QH) (L4 x.1 x.2.1 x.2.2) 4 (argVs [tRules, .str, .int .i64] x) [] (sayTrue [tRules, .str, .int .i64] x) = vc4 x.1 x.2.1 x.2.2 := by kernel_rfl
theorem q4 : Pok 4 [tRules, .str, .int .i64] (fun x => sayTrue [tRules, .str, .int .i64] x) := by
  refine pk (L := fun x => L4 x.1 x.2.1 x.2.2) (l := QH) aQH (fun _ => rfl) ?_
  intro x hv hp
  have hs : ShortL [tRules, .str, .int .i64] x := hp _ (by simp [sayTrue])
  rw [w4]
  exact ok4 x.1 x.2.1 x.2.2 
theorem own_ : ownKnob Try.prog.godebug = none := by kernel_rfl
theorem laid_ : laidOutB Try.prog = true := by kernel_rfl
theorem tys4 : tysB Try.prog Try.f4.params.toList [tRules, .str, .int .i64] = true := by kernel_rfl
theorem spec4 : ∀ (H : Type) (ds : List (DataW H)), ds.length = [tRules, .str, .int .i64].length → Rows.ruleSetsSpec.fn H ds = { results := [.lit (.bool true)], args := ds } := by
  intro H ds h
  match ds, h with
  | [_, _, _], _ => rfl
theorem bool4 : Try.prog.underlying 4 = some .bool := by kernel_rfl
theorem lifted4 (os : Os) (started : os.Started) (H : Type) (enc : TypeId × Value → H) :
    ReturnsInHanded {} Try.checked os 4 .any (Rows.ruleSetsSpec.pre6 enc Try.prog Try.f4 Rows.ruleSetsRow.domain false) (Rows.ruleSetsSpec.post enc Try.prog Try.f4 false true false false) :=
  law_step (C := Try.checked) (T := 4) [tRules, .str, .int .i64] own_ (by kernel_rfl) Try.func4 (by kernel_rfl) (by kernel_rfl) laid_ rfl tys4 (by kernel_rfl) bool4 spec4 q4 os started H enc
    (ChangeSpec.witness6 (enc := enc) (C := Try.checked) false ⟨#[], #[.slice none 0 0, .string ⟨#[]⟩, .int .i64 0], []⟩ 8 (by kernel_rfl) (by kernel_rfl) (by kernel_rfl) (by kernel_rfl))
theorem ruleSets_holds : Rows.RuleSetsSaid :=
  OpenClaim.holds_of_wide 4 Try.f4 rfl rfl rfl rfl rfl rfl rfl ⟨rfl, rfl, rfl, rfl, rfl⟩ rfl rfl rfl rfl rfl (by kernel_rfl) Try.func4 (by kernel_rfl)
    (of_decide_eq_true (by kernel_rfl)) (by unfold Func.isWrapper; first | (rw [if_pos (by decide +kernel)]; kernel_rfl) | (rw [if_neg (by decide +kernel)]; exact ⟨rfl, rfl⟩))
    (fun os started H enc _ => lifted4 os started H enc)
end Go.Proofs.Ytekapagdkclokaa
