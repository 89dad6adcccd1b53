/- Any mailbox is asked, copied and held against another one as law BoxAsks says, for every input; it narrows nothing. -/
import Derived.Test.YtddakledpipanaaP10
import Derived.Test.YtddakledpipanaaRows
set_option linter.unusedVariables false
set_option linter.unusedSimpArgs false
set_option maxRecDepth 100000
namespace Go.Proofs.Ytddakledpipanaa
open Go.Vc
open Go.ChangeShapes Go.WideShapes Go.ChangeAt Go.RowKit
theorem w8 (x : DenL [tBox, tBox, tTwo]) : Owes Try.prog (cfgOf QE) (noKeep) 8 (argVs [tBox, tBox, tTwo] x) [] (sayTrue [tBox, tBox, tTwo] x) = vc8 x.1 x.2.1 x.2.2 := by kernel_rfl
theorem q8 : PureOk Try.prog 8 [tBox, tBox, tTwo] (fun x => sayTrue [tBox, tBox, tTwo] x) := by
  refine pk (L := fun x => noKeep) (l := QE) aQE (fun _ => rfl) ?_
  intro x hv hp
  rw [w8]
  exact ok8 x.1 x.2.1 x.2.2 (hp (ShortL [tBox, tBox, tTwo] x) (by simp [sayTrue])).1
theorem own_ : ownKnob Try.prog.godebug = none := by kernel_rfl
theorem laid_ : laidOutB Try.prog = true := by kernel_rfl
theorem tys8 : tysB Try.prog Try.f8.params.toList [tBox, tBox, tTwo] = true := by kernel_rfl
theorem spec8 : ∀ (H : Type) (ds : List (DataW H)), ds.length = [tBox, tBox, tTwo].length → Rows.boxAsksSpec.fn H ds = { results := [.lit (.bool true)], args := ds } := by
  intro H ds h
  match ds, h with
  | [_, _, _], _ => rfl
theorem bool4 : Try.prog.underlying 4 = some .bool := by kernel_rfl
theorem lifted8 (os : Os) (started : os.Started) (H : Type) (enc : TypeId × Value → H) :
    ReturnsInHanded {} Try.checked os 8 .any (Rows.boxAsksSpec.pre6 enc Try.prog Try.f8 Rows.boxAsksRow.domain false) (Rows.boxAsksSpec.post enc Try.prog Try.f8 false true false false) :=
  law_step (C := Try.checked) (T := 4) [tBox, tBox, tTwo] own_ (by kernel_rfl) Try.func8 (by kernel_rfl) (by kernel_rfl) laid_ rfl tys8 (by kernel_rfl) bool4 spec8 q8 os started H enc
    (ChangeSpec.witness6 (enc := enc) (C := Try.checked) false ⟨#[], #[.agg #[.string ⟨#[]⟩, .int .i64 0, .int .i64 0, .slice none 0 0], .agg #[.string ⟨#[]⟩, .int .i64 0, .int .i64 0, .slice none 0 0], .agg #[.int .i64 0, .int .i64 0]], []⟩ 8 (by kernel_rfl) (by kernel_rfl) (by kernel_rfl) (by kernel_rfl))
theorem boxAsks_holds : Rows.BoxAsksSaid :=
  OpenClaim.holds_of_wide 8 Try.f8 rfl rfl rfl rfl rfl rfl rfl ⟨rfl, rfl, rfl, rfl, rfl⟩ rfl rfl rfl rfl rfl (by kernel_rfl) Try.func8 (by kernel_rfl)
    (of_decide_eq_true (by kernel_rfl)) (by unfold Func.isWrapper; first | (rw [if_pos (by decide +kernel)]; kernel_rfl) | (rw [if_neg (by decide +kernel)]; exact ⟨rfl, rfl⟩))
    (fun os started H enc _ => lifted8 os started H enc)
end Go.Proofs.Ytddakledpipanaa
