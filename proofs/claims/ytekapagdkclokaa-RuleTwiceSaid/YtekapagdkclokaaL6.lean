/- Rules that are set in any order are the same as law RuleTwice says, for every input; it narrows nothing. -/
import Derived.Test.YtekapagdkclokaaE
import Derived.Test.YtekapagdkclokaaRows
set_option linter.unusedVariables false
set_option linter.unusedSimpArgs false
set_option maxRecDepth 100000
namespace Go.Proofs.Ytekapagdkclokaa
open Go.Vc
open Go.ChangeShapes Go.WideShapes Go.ChangeAt Go.RowKit
theorem w6 (x : DenL [tRules, tRule, tRule]) : Owes Try.prog (cfgOf QH) (L6 x.1 x.2.1 x.2.2) 6 (argVs [tRules, tRule, tRule] x) [] (sayTrue [tRules, tRule, tRule] x) = vc6 x.1 x.2.1 x.2.2 := by kernel_rfl
theorem q6 : Pok 6 [tRules, tRule, tRule] (fun x => sayTrue [tRules, tRule, tRule] x) := by
  refine pk (L := fun x => L6 x.1 x.2.1 x.2.2) (l := QH) aQH (fun _ => rfl) ?_
  intro x hv hp
  have hs : ShortL [tRules, tRule, tRule] x := hp _ (by simp [sayTrue])
  rw [w6]
  exact ok6 x.1 x.2.1 x.2.2 
theorem own_ : ownKnob Try.prog.godebug = none := by kernel_rfl
theorem laid_ : laidOutB Try.prog = true := by kernel_rfl
theorem tys6 : tysB Try.prog Try.f6.params.toList [tRules, tRule, tRule] = true := by kernel_rfl
theorem spec6 : ∀ (H : Type) (ds : List (DataW H)), ds.length = [tRules, tRule, tRule].length → Rows.ruleTwiceSpec.fn H ds = { results := [.lit (.bool true)], args := ds } := by
  intro H ds h
  match ds, h with
  | [_, _, _], _ => rfl
theorem bool4 : Try.prog.underlying 4 = some .bool := by kernel_rfl
theorem lifted6 (os : Os) (started : os.Started) (H : Type) (enc : TypeId × Value → H) :
    ReturnsInHanded {} Try.checked os 6 .any (Rows.ruleTwiceSpec.pre6 enc Try.prog Try.f6 Rows.ruleTwiceRow.domain false) (Rows.ruleTwiceSpec.post enc Try.prog Try.f6 false true false false) :=
  law_step (C := Try.checked) (T := 4) [tRules, tRule, tRule] own_ (by kernel_rfl) Try.func6 (by kernel_rfl) (by kernel_rfl) laid_ rfl tys6 (by kernel_rfl) bool4 spec6 q6 os started H enc
    (ChangeSpec.witness6 (enc := enc) (C := Try.checked) false ⟨#[], #[.slice none 0 0, .agg #[.string ⟨#[]⟩, .int .i64 0], .agg #[.string ⟨#[]⟩, .int .i64 0]], []⟩ 8 (by kernel_rfl) (by kernel_rfl) (by kernel_rfl) (by kernel_rfl))
theorem ruleTwice_holds : Rows.RuleTwiceSaid :=
  OpenClaim.holds_of_wide 6 Try.f6 rfl rfl rfl rfl rfl rfl rfl ⟨rfl, rfl, rfl, rfl, rfl⟩ rfl rfl rfl rfl rfl (by kernel_rfl) Try.func6 (by kernel_rfl)
    (of_decide_eq_true (by kernel_rfl)) (by unfold Func.isWrapper; first | (rw [if_pos (by decide +kernel)]; kernel_rfl) | (rw [if_neg (by decide +kernel)]; exact ⟨rfl, rfl⟩))
    (fun os started H enc _ => lifted6 os started H enc)
end Go.Proofs.Ytekapagdkclokaa
