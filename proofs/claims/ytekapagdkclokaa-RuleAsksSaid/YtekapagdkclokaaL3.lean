/- Tombs, rules and holds are asked as law RuleAsks says, for every input; it narrows nothing. -/
import Derived.Test.YtekapagdkclokaaE
import Derived.Test.YtekapagdkclokaaRows
set_option linter.unusedVariables false
set_option linter.unusedSimpArgs false
set_option maxRecDepth 100000
namespace Go.Proofs.Ytekapagdkclokaa
open Go.Vc
open Go.ChangeShapes Go.WideShapes Go.ChangeAt Go.RowKit
theorem w3 (x : DenL [tLaw, tTombs, .int .i64]) : Owes Try.prog (cfgOf QH) (L3 x.1 x.2.1 x.2.2) 3 (argVs [tLaw, tTombs, .int .i64] x) [] (sayTrue [tLaw, tTombs, .int .i64] x) = vc3 x.1 x.2.1 x.2.2 := by kernel_rfl
theorem q3 : Pok 3 [tLaw, tTombs, .int .i64] (fun x => sayTrue [tLaw, tTombs, .int .i64] x) := by
  refine pk (L := fun x => L3 x.1 x.2.1 x.2.2) (l := QH) aQH (fun _ => rfl) ?_
  intro x hv hp
  have hs : ShortL [tLaw, tTombs, .int .i64] x := hp _ (by simp [sayTrue])
  rw [w3]
  exact ok3 x.1 x.2.1 x.2.2 ⟨hs.1, hs.2.1⟩
theorem own_ : ownKnob Try.prog.godebug = none := by kernel_rfl
theorem laid_ : laidOutB Try.prog = true := by kernel_rfl
theorem tys3 : tysB Try.prog Try.f3.params.toList [tLaw, tTombs, .int .i64] = true := by kernel_rfl
theorem spec3 : ∀ (H : Type) (ds : List (DataW H)), ds.length = [tLaw, tTombs, .int .i64].length → Rows.ruleAsksSpec.fn H ds = { results := [.lit (.bool true)], args := ds } := by
  intro H ds h
  match ds, h with
  | [_, _, _], _ => rfl
theorem bool4 : Try.prog.underlying 4 = some .bool := by kernel_rfl
theorem lifted3 (os : Os) (started : os.Started) (H : Type) (enc : TypeId × Value → H) :
    ReturnsInHanded {} Try.checked os 3 .any (Rows.ruleAsksSpec.pre6 enc Try.prog Try.f3 Rows.ruleAsksRow.domain false) (Rows.ruleAsksSpec.post enc Try.prog Try.f3 false true false false) :=
  law_step (C := Try.checked) (T := 4) [tLaw, tTombs, .int .i64] own_ (by kernel_rfl) Try.func3 (by kernel_rfl) (by kernel_rfl) laid_ rfl tys3 (by kernel_rfl) bool4 spec3 q3 os started H enc
    (ChangeSpec.witness6 (enc := enc) (C := Try.checked) false ⟨#[], #[.agg #[.slice none 0 0, .slice none 0 0], .slice none 0 0, .int .i64 0], []⟩ 8 (by kernel_rfl) (by kernel_rfl) (by kernel_rfl) (by kernel_rfl))
theorem ruleAsks_holds : Rows.RuleAsksSaid :=
  OpenClaim.holds_of_wide 3 Try.f3 rfl rfl rfl rfl rfl rfl rfl ⟨rfl, rfl, rfl, rfl, rfl⟩ rfl rfl rfl rfl rfl (by kernel_rfl) Try.func3 (by kernel_rfl)
    (of_decide_eq_true (by kernel_rfl)) (by unfold Func.isWrapper; first | (rw [if_pos (by decide +kernel)]; kernel_rfl) | (rw [if_neg (by decide +kernel)]; exact ⟨rfl, rfl⟩))
    (fun os started H enc _ => lifted3 os started H enc)
end Go.Proofs.Ytekapagdkclokaa
