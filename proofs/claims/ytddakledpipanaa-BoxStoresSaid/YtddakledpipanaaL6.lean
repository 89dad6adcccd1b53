/- Any flags are stored, and any messages taken, as law BoxStores says, for every input; it narrows nothing. -/
import Derived.Test.YtddakledpipanaaP10
import Derived.Test.YtddakledpipanaaRows
set_option linter.unusedVariables false
set_option linter.unusedSimpArgs false
set_option maxRecDepth 100000
namespace Go.Proofs.Ytddakledpipanaa
open Go.Vc
open Go.ChangeShapes Go.WideShapes Go.ChangeAt Go.RowKit
theorem w6 (x : DenL [tBox, tInts, tTwo]) : Owes Try.prog (cfgOf QE) (noKeep) 6 (argVs [tBox, tInts, tTwo] x) [] (sayTrue [tBox, tInts, tTwo] x) = vc6 x.1 x.2.1 x.2.2 := by kernel_rfl
theorem q6 : PureOk Try.prog 6 [tBox, tInts, tTwo] (fun x => sayTrue [tBox, tInts, tTwo] x) := by
  refine pk (L := fun x => noKeep) (l := QE) aQE (fun _ => rfl) ?_
  intro x hv hp
  rw [w6]
  exact ok6 x.1 x.2.1 x.2.2 (hp (ShortL [tBox, tInts, tTwo] x) (by simp [sayTrue])).1
theorem own_ : ownKnob Try.prog.godebug = none := by kernel_rfl
theorem laid_ : laidOutB Try.prog = true := by kernel_rfl
theorem tys6 : tysB Try.prog Try.f6.params.toList [tBox, tInts, tTwo] = true := by kernel_rfl
theorem spec6 : ∀ (H : Type) (ds : List (DataW H)), ds.length = [tBox, tInts, tTwo].length → Rows.boxStoresSpec.fn H ds = { results := [.lit (.bool true)], args := ds } := by
  intro H ds h
  match ds, h with
  | [_, _, _], _ => rfl
theorem bool4 : Try.prog.underlying 4 = some .bool := by kernel_rfl
theorem lifted6 (os : Os) (started : os.Started) (H : Type) (enc : TypeId × Value → H) :
    ReturnsInHanded {} Try.checked os 6 .any (Rows.boxStoresSpec.pre6 enc Try.prog Try.f6 Rows.boxStoresRow.domain false) (Rows.boxStoresSpec.post enc Try.prog Try.f6 false true false false) :=
  law_step (C := Try.checked) (T := 4) [tBox, tInts, tTwo] own_ (by kernel_rfl) Try.func6 (by kernel_rfl) (by kernel_rfl) laid_ rfl tys6 (by kernel_rfl) bool4 spec6 q6 os started H enc
    (ChangeSpec.witness6 (enc := enc) (C := Try.checked) false ⟨#[], #[.agg #[.string ⟨#[]⟩, .int .i64 0, .int .i64 0, .slice none 0 0], .slice none 0 0, .agg #[.int .i64 0, .int .i64 0]], []⟩ 8 (by kernel_rfl) (by kernel_rfl) (by kernel_rfl) (by kernel_rfl))
theorem boxStores_holds : Rows.BoxStoresSaid :=
  OpenClaim.holds_of_wide 6 Try.f6 rfl rfl rfl rfl rfl rfl rfl ⟨rfl, rfl, rfl, rfl, rfl⟩ rfl rfl rfl rfl rfl (by kernel_rfl) Try.func6 (by kernel_rfl)
    (of_decide_eq_true (by kernel_rfl)) (by unfold Func.isWrapper; first | (rw [if_pos (by decide +kernel)]; kernel_rfl) | (rw [if_neg (by decide +kernel)]; exact ⟨rfl, rfl⟩))
    (fun os started H enc _ => lifted6 os started H enc)
end Go.Proofs.Ytddakledpipanaa
