/- What is clean is right, and stays, is like itself and like a star. It narrows nothing: it holds for every input. -/
import Derived.Test.YtaaonbnjghjhlaaDoorD
import Derived.Test.YtaaonbnjghjhlaaDoorRows
import Derived.Test.YtaaonbnjghjhlaaDoorVcF
import Derived.Lay
import Derived.Test.YtaaonbnjghjhlaaDoorCards
import Derived.Test.YtaaonbnjghjhlaaDoorTie
import Derived.SevenTiedAt
set_option linter.unusedVariables false
set_option linter.unusedSimpArgs false
set_option maxRecDepth 100000
namespace Go.Proofs.YtaaonbnjghjhlaaDoor
open Go.Vc
open Go.ChangeShapes Go.WideShapes Go.ChangeAt Go.RowKit
theorem wlaw10_NameClean (x : DenL [.str, .str]) : Owes Tryd.prog (cfgOf Qlaw10_alive) (Llaw10_NameClean x.1 x.2) 4 (argVs [.str, .str] x) [] (sayTrue [.str, .str] x) = vclaw10_NameClean x.1 x.2 := by kernel_rfl
theorem qlaw10_NameClean : Pok 4 [.str, .str] (fun x => sayTrue [.str, .str] x) := by
  refine pk (L := fun x => Llaw10_NameClean x.1 x.2) (l := Qlaw10_alive) aQlaw10_alive (fun _ => rfl) ?_
  intro x hv hp
  have hs : ShortL [.str, .str] x := hp _ (by simp [sayTrue])
  rw [wlaw10_NameClean]
  exact oklaw10_NameClean x.1 x.2 hs
theorem own_ : ownKnob Tryd.prog.godebug = none := by kernel_rfl
theorem laid_ : laidOutB Tryd.prog = true := by kernel_rfl
theorem tys4 : tysB Tryd.prog Tryd.f4.params.toList [.str, .str] = true := by kernel_rfl
theorem spec4 : ∀ (H : Type) (ds : List (DataW H)), ds.length = List.length (α := Ty) [.str, .str] → Rows.nameCleanSpec.fn H ds = { results := [.lit (.bool true)], args := ds } := by
  intro H ds h
  match ds, h with
  | [_, _], _ => rfl
theorem bool4 : Tryd.prog.underlying 4 = some .bool := by kernel_rfl
theorem globs : GlobsAre Tryd.prog Rows.nameCleanRow.laid gl := by
  intro g t x h
  cases h
theorem lifted4 (os : Os) (started : os.Started) (H : Type) (enc : TypeId × Value → H) :
    ReturnsInHanded {} Tryd.checked os 4 .any (fun w args => (Rows.nameCleanSpec.pre enc Tryd.prog Tryd.f4 [] false w args ∧ laidMetH Tryd.prog Rows.nameCleanRow.laid w) ∧ sizedMet enc Tryd.prog Tryd.f4 (OpenSpec.ofChange Rows.nameCleanSpec) false w args) (Rows.nameCleanSpec.post enc Tryd.prog Tryd.f4 false true false false) :=
  law_step_laid (C := Tryd.checked) (T := 4) (laid := Rows.nameCleanRow.laid) (gl := gl) [.str, .str] own_ (by kernel_rfl) Tryd.func4 (by kernel_rfl) (by kernel_rfl) laid_ rfl tys4 (by kernel_rfl) bool4 spec4 qlaw10_NameClean (by kernel_rfl) globs os started H enc
    (ChangeSpec.witness_shaped (enc := enc) (C := Tryd.checked) (os := os) (X := fun w _ => laidMetH Tryd.prog Rows.nameCleanRow.laid w) false (World.laidAll Tryd.prog os Rows.nameCleanRow.laid) #[.string ⟨#[]⟩, .string ⟨#[]⟩] 8 (World.laidAll_os _ _ _) (World.shaped_of_ZipB (by kernel_rfl) (by kernel_rfl)) (by kernel_rfl) (by kernel_rfl) (by kernel_rfl) (by rw [MakeChecks.laidMetH_plain _ _ _ (by kernel_rfl)]; exact laidMet_laidAll _ (by kernel_rfl) (by kernel_rfl)))
theorem nameClean_row : Rows.NameCleanSaid :=
  OpenClaim.holds_of_wide 4 Tryd.f4 rfl rfl rfl rfl rfl rfl rfl ⟨rfl, rfl, rfl, rfl, rfl⟩ rfl rfl rfl rfl rfl (by kernel_rfl) Tryd.func4 (by kernel_rfl)
    (of_decide_eq_true (by kernel_rfl)) (by unfold Func.isWrapper; first | (rw [if_pos (by decide +kernel)]; kernel_rfl) | (rw [if_neg (by decide +kernel)]; exact ⟨rfl, rfl⟩))
    (fun os started H enc _ => lifted4 os started H enc)
theorem wants4 : (Tryd.f4.params.toList.all fun t => !Tryd.prog.wantsStandIn t) = true := by kernel_rfl
theorem nameClean_card : Rows.NameCleanCardSaid :=
  Claim7.holds_tied_plain_at .later [] [.data, .data, .data, .pinned, .pinned] true (true, "4b78a1c6bbf9ed4734b6a724ecdc24936c2d60d3c673846f4d552753ac40196a") false
    nameClean_row (fun _ h => by cases h) (by kernel_rfl) (fun _ h => by cases h) nameClean_row_tie rfl ⟨rfl, rfl⟩ (by kernel_rfl) rfl
    (fun f fn hf hfn => by
      obtain rfl : f = 4 := Option.some.inj ((show Tryd.prog.funcNamed "escheat/escheatlaw10.NameClean" = some 4 by kernel_rfl).symm.trans hf) |>.symm
      obtain rfl : fn = Tryd.f4 := (Option.some.inj (Tryd.func4.symm.trans hfn)).symm
      refine ⟨by kernel_rfl, fun j t ht => ?_⟩
      have hm := List.all_eq_true.1 wants4 t (by rw [← Array.getElem?_toList] at ht; exact List.mem_of_getElem? ht)
      exact (show Tryd.prog.wantsStandIn t = false by simpa using hm))
    (by kernel_rfl)
end Go.Proofs.YtaaonbnjghjhlaaDoor
