/- Flags that are stored are counted as law BoxCounts says, for every input; it narrows nothing. -/
import Derived.Test.YtddakledpipanaaP10
import Derived.Test.YtddakledpipanaaRows
set_option linter.unusedVariables false
set_option linter.unusedSimpArgs false
set_option maxRecDepth 100000
namespace Go.Proofs.Ytddakledpipanaa
open Go.Vc
open Go.ChangeShapes Go.WideShapes Go.ChangeAt Go.RowKit
theorem w7 (x : DenL [tBox, tInts, .int .u8]) : Owes Try.prog (cfgOf QE) (lp7 x.1 (U.store x.1 x.2.1 1 (Int.tmod (IntKind.wrap .i64 x.2.2) 32)).1 x.2.1 (Int.tmod (IntKind.wrap .i64 x.2.2) 32)) 7 (argVs [tBox, tInts, .int .u8] x) [] (sayTrue [tBox, tInts, .int .u8] x) = vc7 x.1 x.2.1 x.2.2 := by kernel_rfl
theorem q7 : PureOk Try.prog 7 [tBox, tInts, .int .u8] (fun x => sayTrue [tBox, tInts, .int .u8] x) := by
  refine pk (L := fun x => lp7 x.1 (U.store x.1 x.2.1 1 (Int.tmod (IntKind.wrap .i64 x.2.2) 32)).1 x.2.1 (Int.tmod (IntKind.wrap .i64 x.2.2) 32)) (l := QE) aQE (fun _ => rfl) ?_
  intro x hv hp
  rw [w7]
  exact ok7 x.1 x.2.1 x.2.2 (T.vU8 hv.2.2) (fun m hm => T.vI64 (hv.1.2.2.2.1 m hm).2.1)
theorem own_ : ownKnob Try.prog.godebug = none := by kernel_rfl
theorem laid_ : laidOutB Try.prog = true := by kernel_rfl
theorem tys7 : tysB Try.prog Try.f7.params.toList [tBox, tInts, .int .u8] = true := by kernel_rfl
theorem spec7 : ∀ (H : Type) (ds : List (DataW H)), ds.length = [tBox, tInts, .int .u8].length → Rows.boxCountsSpec.fn H ds = { results := [.lit (.bool true)], args := ds } := by
  intro H ds h
  match ds, h with
  | [_, _, _], _ => rfl
theorem bool4 : Try.prog.underlying 4 = some .bool := by kernel_rfl
theorem lifted7 (os : Os) (started : os.Started) (H : Type) (enc : TypeId × Value → H) :
    ReturnsInHanded {} Try.checked os 7 .any (Rows.boxCountsSpec.pre6 enc Try.prog Try.f7 Rows.boxCountsRow.domain false) (Rows.boxCountsSpec.post enc Try.prog Try.f7 false true false false) :=
  law_step (C := Try.checked) (T := 4) [tBox, tInts, .int .u8] own_ (by kernel_rfl) Try.func7 (by kernel_rfl) (by kernel_rfl) laid_ rfl tys7 (by kernel_rfl) bool4 spec7 q7 os started H enc
    (ChangeSpec.witness6 (enc := enc) (C := Try.checked) false ⟨#[], #[.agg #[.string ⟨#[]⟩, .int .i64 0, .int .i64 0, .slice none 0 0], .slice none 0 0, .int .u8 0], []⟩ 8 (by kernel_rfl) (by kernel_rfl) (by kernel_rfl) (by kernel_rfl))
theorem boxCounts_holds : Rows.BoxCountsSaid :=
  OpenClaim.holds_of_wide 7 Try.f7 rfl rfl rfl rfl rfl rfl rfl ⟨rfl, rfl, rfl, rfl, rfl⟩ rfl rfl rfl rfl rfl (by kernel_rfl) Try.func7 (by kernel_rfl)
    (of_decide_eq_true (by kernel_rfl)) (by unfold Func.isWrapper; first | (rw [if_pos (by decide +kernel)]; kernel_rfl) | (rw [if_neg (by decide +kernel)]; exact ⟨rfl, rfl⟩))
    (fun os started H enc _ => lifted7 os started H enc)
end Go.Proofs.Ytddakledpipanaa
