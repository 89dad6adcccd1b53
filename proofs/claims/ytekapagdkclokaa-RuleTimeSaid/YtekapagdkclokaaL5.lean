/- What may go is not held and goes later too as law RuleTime says, for every input; it narrows nothing. -/
import Derived.Test.YtekapagdkclokaaE
import Derived.Test.YtekapagdkclokaaRows
set_option linter.unusedVariables false
set_option linter.unusedSimpArgs false
set_option maxRecDepth 100000
namespace Go.Proofs.Ytekapagdkclokaa
open Go.Vc
open Go.ChangeShapes Go.WideShapes Go.ChangeAt Go.RowKit
theorem w5 (x : DenL [tLaw, tTomb, tThree]) : Owes Try.prog (cfgOf QH) (L5 x.1 x.2.1 x.2.2) 5 (argVs [tLaw, tTomb, tThree] x) [] (sayTrue [tLaw, tTomb, tThree] x) = vc5 x.1 x.2.1 x.2.2 := by kernel_rfl
theorem q5 : Pok 5 [tLaw, tTomb, tThree] (fun x => sayTrue [tLaw, tTomb, tThree] x) := by
  refine pk (L := fun x => L5 x.1 x.2.1 x.2.2) (l := QH) aQH (fun _ => rfl) ?_
  intro x hv hp
  have hs : ShortL [tLaw, tTomb, tThree] x := hp _ (by simp [sayTrue])
  rw [w5]
  exact ok5 x.1 x.2.1 x.2.2 ⟨hs.1, (fun _ h => by cases h), Nat.zero_le _⟩
theorem own_ : ownKnob Try.prog.godebug = none := by kernel_rfl
theorem laid_ : laidOutB Try.prog = true := by kernel_rfl
theorem tys5 : tysB Try.prog Try.f5.params.toList [tLaw, tTomb, tThree] = true := by kernel_rfl
theorem spec5 : ∀ (H : Type) (ds : List (DataW H)), ds.length = [tLaw, tTomb, tThree].length → Rows.ruleTimeSpec.fn H ds = { results := [.lit (.bool true)], args := ds } := by
  intro H ds h
  match ds, h with
  | [_, _, _], _ => rfl
theorem bool4 : Try.prog.underlying 4 = some .bool := by kernel_rfl
theorem lifted5 (os : Os) (started : os.Started) (H : Type) (enc : TypeId × Value → H) :
    ReturnsInHanded {} Try.checked os 5 .any (Rows.ruleTimeSpec.pre6 enc Try.prog Try.f5 Rows.ruleTimeRow.domain false) (Rows.ruleTimeSpec.post enc Try.prog Try.f5 false true false false) :=
  law_step (C := Try.checked) (T := 4) [tLaw, tTomb, tThree] own_ (by kernel_rfl) Try.func5 (by kernel_rfl) (by kernel_rfl) laid_ rfl tys5 (by kernel_rfl) bool4 spec5 q5 os started H enc
    (ChangeSpec.witness6 (enc := enc) (C := Try.checked) false ⟨#[], #[.agg #[.slice none 0 0, .slice none 0 0], .agg #[.int .i64 0, .string ⟨#[]⟩, .int .i64 0, .int .i64 0, .int .i64 0, .int .i64 0, .slice none 0 0], .agg #[.int .i64 0, .int .i64 0, .int .i64 0]], []⟩ 8 (by kernel_rfl) (by kernel_rfl) (by kernel_rfl) (by kernel_rfl))
theorem ruleTime_holds : Rows.RuleTimeSaid :=
  OpenClaim.holds_of_wide 5 Try.f5 rfl rfl rfl rfl rfl rfl rfl ⟨rfl, rfl, rfl, rfl, rfl⟩ rfl rfl rfl rfl rfl (by kernel_rfl) Try.func5 (by kernel_rfl)
    (of_decide_eq_true (by kernel_rfl)) (by unfold Func.isWrapper; first | (rw [if_pos (by decide +kernel)]; kernel_rfl) | (rw [if_neg (by decide +kernel)]; exact ⟨rfl, rfl⟩))
    (fun os started H enc _ => lifted5 os started H enc)
end Go.Proofs.Ytekapagdkclokaa
