/- A new message has the next number, whatever is added and taken, as law BoxRise says, for every input; it narrows nothing. -/
import Derived.Test.YtddakledpipanaaP10
import Derived.Test.YtddakledpipanaaRows
set_option linter.unusedVariables false
set_option linter.unusedSimpArgs false
set_option maxRecDepth 100000
namespace Go.Proofs.Ytddakledpipanaa
open Go.Vc
open Go.ChangeShapes Go.WideShapes Go.ChangeAt Go.RowKit
theorem w5 (x : DenL [tTurns, .int .u32]) : Owes Try.prog (cfgOf QE) (lp5 x.1) 5 (argVs [tTurns, .int .u32] x) [] (sayTrue [tTurns, .int .u32] x) = vc5 x.1 x.2 := by kernel_rfl
theorem q5 : PureOk Try.prog 5 [tTurns, .int .u32] (fun x => sayTrue [tTurns, .int .u32] x) := by
  refine pk (L := fun x => lp5 x.1) (l := QE) aQE (fun _ => rfl) ?_
  intro x hv hp
  rw [w5]
  exact ok5 x.1 x.2 (T.vU32 hv.2) (fun t ht => T.vU8 (hv.1.1 t ht).2.2)
theorem own_ : ownKnob Try.prog.godebug = none := by kernel_rfl
theorem laid_ : laidOutB Try.prog = true := by kernel_rfl
theorem tys5 : tysB Try.prog Try.f5.params.toList [tTurns, .int .u32] = true := by kernel_rfl
theorem spec5 : ∀ (H : Type) (ds : List (DataW H)), ds.length = [tTurns, .int .u32].length → Rows.boxRiseSpec.fn H ds = { results := [.lit (.bool true)], args := ds } := by
  intro H ds h
  match ds, h with
  | [_, _], _ => rfl
theorem bool4 : Try.prog.underlying 4 = some .bool := by kernel_rfl
theorem lifted5 (os : Os) (started : os.Started) (H : Type) (enc : TypeId × Value → H) :
    ReturnsInHanded {} Try.checked os 5 .any (Rows.boxRiseSpec.pre6 enc Try.prog Try.f5 Rows.boxRiseRow.domain false) (Rows.boxRiseSpec.post enc Try.prog Try.f5 false true false false) :=
  law_step (C := Try.checked) (T := 4) [tTurns, .int .u32] own_ (by kernel_rfl) Try.func5 (by kernel_rfl) (by kernel_rfl) laid_ rfl tys5 (by kernel_rfl) bool4 spec5 q5 os started H enc
    (ChangeSpec.witness6 (enc := enc) (C := Try.checked) false ⟨#[], #[.slice none 0 0, .int .u32 0], []⟩ 8 (by kernel_rfl) (by kernel_rfl) (by kernel_rfl) (by kernel_rfl))
theorem boxRise_holds : Rows.BoxRiseSaid :=
  OpenClaim.holds_of_wide 5 Try.f5 rfl rfl rfl rfl rfl rfl rfl ⟨rfl, rfl, rfl, rfl, rfl⟩ rfl rfl rfl rfl rfl (by kernel_rfl) Try.func5 (by kernel_rfl)
    (of_decide_eq_true (by kernel_rfl)) (by unfold Func.isWrapper; first | (rw [if_pos (by decide +kernel)]; kernel_rfl) | (rw [if_neg (by decide +kernel)]; exact ⟨rfl, rfl⟩))
    (fun os started H enc _ => lifted5 os started H enc)
end Go.Proofs.Ytddakledpipanaa
