/- Any message is added to any mailbox as law BoxAdds says, for every input; it narrows nothing. -/
import Derived.Test.YtddakledpipanaaP10
import Derived.Test.YtddakledpipanaaRows
set_option linter.unusedVariables false
set_option linter.unusedSimpArgs false
set_option maxRecDepth 100000
namespace Go.Proofs.Ytddakledpipanaa
open Go.Vc
open Go.ChangeShapes Go.WideShapes Go.ChangeAt Go.RowKit
theorem w3 (x : DenL [tBox, tMsg]) : Owes Try.prog (cfgOf QE) (noKeep) 3 (argVs [tBox, tMsg] x) [] (sayTrue [tBox, tMsg] x) = vc3 x.1 x.2 := by kernel_rfl
theorem q3 : PureOk Try.prog 3 [tBox, tMsg] (fun x => sayTrue [tBox, tMsg] x) := by
  refine pk (L := fun x => noKeep) (l := QE) aQE (fun _ => rfl) ?_
  intro x hv hp
  rw [w3]
  exact ok3 x.1 x.2 (hp (ShortL [tBox, tMsg] x) (by simp [sayTrue])).1
theorem own_ : ownKnob Try.prog.godebug = none := by kernel_rfl
theorem laid_ : laidOutB Try.prog = true := by kernel_rfl
theorem tys3 : tysB Try.prog Try.f3.params.toList [tBox, tMsg] = true := by kernel_rfl
theorem spec3 : ∀ (H : Type) (ds : List (DataW H)), ds.length = [tBox, tMsg].length → Rows.boxAddsSpec.fn H ds = { results := [.lit (.bool true)], args := ds } := by
  intro H ds h
  match ds, h with
  | [_, _], _ => rfl
theorem bool4 : Try.prog.underlying 4 = some .bool := by kernel_rfl
theorem lifted3 (os : Os) (started : os.Started) (H : Type) (enc : TypeId × Value → H) :
    ReturnsInHanded {} Try.checked os 3 .any (Rows.boxAddsSpec.pre6 enc Try.prog Try.f3 Rows.boxAddsRow.domain false) (Rows.boxAddsSpec.post enc Try.prog Try.f3 false true false false) :=
  law_step (C := Try.checked) (T := 4) [tBox, tMsg] own_ (by kernel_rfl) Try.func3 (by kernel_rfl) (by kernel_rfl) laid_ rfl tys3 (by kernel_rfl) bool4 spec3 q3 os started H enc
    (ChangeSpec.witness6 (enc := enc) (C := Try.checked) false ⟨#[], #[.agg #[.string ⟨#[]⟩, .int .i64 0, .int .i64 0, .slice none 0 0], .agg #[.int .i64 0, .int .i64 0, .int .i64 0, .slice none 0 0]], []⟩ 8 (by kernel_rfl) (by kernel_rfl) (by kernel_rfl) (by kernel_rfl))
theorem boxAdds_holds : Rows.BoxAddsSaid :=
  OpenClaim.holds_of_wide 3 Try.f3 rfl rfl rfl rfl rfl rfl rfl ⟨rfl, rfl, rfl, rfl, rfl⟩ rfl rfl rfl rfl rfl (by kernel_rfl) Try.func3 (by kernel_rfl)
    (of_decide_eq_true (by kernel_rfl)) (by unfold Func.isWrapper; first | (rw [if_pos (by decide +kernel)]; kernel_rfl) | (rw [if_neg (by decide +kernel)]; exact ⟨rfl, rfl⟩))
    (fun os started H enc _ => lifted3 os started H enc)
end Go.Proofs.Ytddakledpipanaa
