/- A name that is like a pattern is like it with a star more, at either end; a name with a part more is below it. It narrows nothing: it holds for every input. -/
import Derived.Test.YtaaonbnjghjhlaaDoorD
import Derived.Test.YtaaonbnjghjhlaaDoorRows
import Derived.Test.YtaaonbnjghjhlaaDoorVcF
import Derived.Lay
import Derived.Test.YtaaonbnjghjhlaaDoorCards
import Derived.Test.YtaaonbnjghjhlaaDoorTie
import Derived.SevenTiedAt
set_option linter.unusedVariables false
set_option linter.unusedSimpArgs false
set_option maxRecDepth 100000
namespace Go.Proofs.YtaaonbnjghjhlaaDoor
open Go.Vc
open Go.ChangeShapes Go.WideShapes Go.ChangeAt Go.RowKit
theorem wlaw10_NameMore (x : DenL [.str, .str, .str]) : Owes Tryd.prog (cfgOf Qlaw10_alive) (Llaw10_NameMore x.1 x.2.1 x.2.2) 5 (argVs [.str, .str, .str] x) [] (sayTrue [.str, .str, .str] x) = vclaw10_NameMore x.1 x.2.1 x.2.2 := by kernel_rfl
theorem qlaw10_NameMore : Pok 5 [.str, .str, .str] (fun x => sayTrue [.str, .str, .str] x) := by
  refine pk (L := fun x => Llaw10_NameMore x.1 x.2.1 x.2.2) (l := Qlaw10_alive) aQlaw10_alive (fun _ => rfl) ?_
  intro x hv hp
  have hs : ShortL [.str, .str, .str] x := hp _ (by simp [sayTrue])
  rw [wlaw10_NameMore]
  exact oklaw10_NameMore x.1 x.2.1 x.2.2 hs
theorem own_ : ownKnob Tryd.prog.godebug = none := by kernel_rfl
theorem laid_ : laidOutB Tryd.prog = true := by kernel_rfl
theorem tys5 : tysB Tryd.prog Tryd.f5.params.toList [.str, .str, .str] = true := by kernel_rfl
theorem spec5 : ∀ (H : Type) (ds : List (DataW H)), ds.length = List.length (α := Ty) [.str, .str, .str] → Rows.nameMoreSpec.fn H ds = { results := [.lit (.bool true)], args := ds } := by
  intro H ds h
  match ds, h with
  | [_, _, _], _ => rfl
theorem bool4 : Tryd.prog.underlying 4 = some .bool := by kernel_rfl
theorem globs : GlobsAre Tryd.prog Rows.nameMoreRow.laid gl := by
  intro g t x h
  cases h
theorem lifted5 (os : Os) (started : os.Started) (H : Type) (enc : TypeId × Value → H) :
    ReturnsInHanded {} Tryd.checked os 5 .any (fun w args => (Rows.nameMoreSpec.pre enc Tryd.prog Tryd.f5 [] false w args ∧ laidMetH Tryd.prog Rows.nameMoreRow.laid w) ∧ sizedMet enc Tryd.prog Tryd.f5 (OpenSpec.ofChange Rows.nameMoreSpec) false w args) (Rows.nameMoreSpec.post enc Tryd.prog Tryd.f5 false true false false) :=
  law_step_laid (C := Tryd.checked) (T := 4) (laid := Rows.nameMoreRow.laid) (gl := gl) [.str, .str, .str] own_ (by kernel_rfl) Tryd.func5 (by kernel_rfl) (by kernel_rfl) laid_ rfl tys5 (by kernel_rfl) bool4 spec5 qlaw10_NameMore (by kernel_rfl) globs os started H enc
    (ChangeSpec.witness_shaped (enc := enc) (C := Tryd.checked) (os := os) (X := fun w _ => laidMetH Tryd.prog Rows.nameMoreRow.laid w) false (World.laidAll Tryd.prog os Rows.nameMoreRow.laid) #[.string ⟨#[]⟩, .string ⟨#[]⟩, .string ⟨#[]⟩] 8 (World.laidAll_os _ _ _) (World.shaped_of_ZipB (by kernel_rfl) (by kernel_rfl)) (by kernel_rfl) (by kernel_rfl) (by kernel_rfl) (by rw [MakeChecks.laidMetH_plain _ _ _ (by kernel_rfl)]; exact laidMet_laidAll _ (by kernel_rfl) (by kernel_rfl)))
theorem nameMore_row : Rows.NameMoreSaid :=
  OpenClaim.holds_of_wide 5 Tryd.f5 rfl rfl rfl rfl rfl rfl rfl ⟨rfl, rfl, rfl, rfl, rfl⟩ rfl rfl rfl rfl rfl (by kernel_rfl) Tryd.func5 (by kernel_rfl)
    (of_decide_eq_true (by kernel_rfl)) (by unfold Func.isWrapper; first | (rw [if_pos (by decide +kernel)]; kernel_rfl) | (rw [if_neg (by decide +kernel)]; exact ⟨rfl, rfl⟩))
    (fun os started H enc _ => lifted5 os started H enc)
theorem wants5 : (Tryd.f5.params.toList.all fun t => !Tryd.prog.wantsStandIn t) = true := by kernel_rfl
theorem nameMore_card : Rows.NameMoreCardSaid :=
  Claim7.holds_tied_plain_at .later [] [.data, .data, .data, .pinned, .pinned] true (true, "4b78a1c6bbf9ed4734b6a724ecdc24936c2d60d3c673846f4d552753ac40196a") false
    nameMore_row (fun _ h => by cases h) (by kernel_rfl) (fun _ h => by cases h) nameMore_row_tie rfl ⟨rfl, rfl⟩ (by kernel_rfl) rfl
    (fun f fn hf hfn => by
      obtain rfl : f = 5 := Option.some.inj ((show Tryd.prog.funcNamed "escheat/escheatlaw10.NameMore" = some 5 by kernel_rfl).symm.trans hf) |>.symm
      obtain rfl : fn = Tryd.f5 := (Option.some.inj (Tryd.func5.symm.trans hfn)).symm
      refine ⟨by kernel_rfl, fun j t ht => ?_⟩
      have hm := List.all_eq_true.1 wants5 t (by rw [← Array.getElem?_toList] at ht; exact List.mem_of_getElem? ht)
      exact (show Tryd.prog.wantsStandIn t = false by simpa using hm))
    (by kernel_rfl)
end Go.Proofs.YtaaonbnjghjhlaaDoor
