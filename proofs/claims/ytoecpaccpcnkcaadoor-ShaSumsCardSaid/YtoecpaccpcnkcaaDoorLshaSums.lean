/- Any bytes have the document's sum, padded as it says, for every input; it narrows nothing. -/
import Derived.Test.YtoecpaccpcnkcaaDoorD
import Derived.Test.YtoecpaccpcnkcaaDoorRows
import Derived.Test.YtoecpaccpcnkcaaDoorVcF
import Derived.Test.YtoecpaccpcnkcaaDoorCards
import Derived.Test.YtoecpaccpcnkcaaDoorTie
import Derived.SevenTiedAt
set_option linter.unusedVariables false
set_option linter.unusedSimpArgs false
set_option maxRecDepth 100000
namespace Go.Proofs.YtoecpaccpcnkcaaDoor
open Go.Vc
open Go.ChangeShapes Go.WideShapes Go.ChangeAt Go.RowKit
theorem wlaw04_ShaSums (x : DenL [tBytes]) : Owes Tryd.prog (cfgOf Qref04_Text) (Llaw04_ShaSums x) 6 (argVs [tBytes] x) [] (sayTrue [tBytes] x) = vclaw04_ShaSums x := by kernel_rfl
theorem qlaw04_ShaSums : Pok 6 [tBytes] (fun x => sayTrue [tBytes] x) := by
  refine pk (L := fun x => Llaw04_ShaSums x) (l := Qref04_Text) aQref04_Text (fun _ => rfl) ?_
  intro x hv hp
  have hs : ShortL [tBytes] x := hp _ (by simp [sayTrue])
  rw [wlaw04_ShaSums]
  exact oklaw04_ShaSums x hv.1
theorem own_ : ownKnob Tryd.prog.godebug = none := by kernel_rfl
theorem laid_ : laidOutB Tryd.prog = true := by kernel_rfl
theorem tys6 : tysB Tryd.prog Tryd.f6.params.toList [tBytes] = true := by kernel_rfl
theorem spec6 : ∀ (H : Type) (ds : List (DataW H)), ds.length = [tBytes].length → Rows.shaSumsSpec.fn H ds = { results := [.lit (.bool true)], args := ds } := by
  intro H ds h
  match ds, h with
  | [_], _ => rfl
theorem bool4 : Tryd.prog.underlying 4 = some .bool := by kernel_rfl
theorem door_met (os : Os) (args : Array Value) : laidMetH Tryd.prog Rows.shaSumsRow.laid ((World.doorLaid Tryd.prog 4000 os).forCall (fun _ _ => 0) ⟨#[], args, []⟩).memory :=
  laidMetH_of_parts3 (fuel := 8) (laidMet_of_run' 8 (by kernel_rfl) (by kernel_rfl)) (by kernel_rfl) (by kernel_rfl)
theorem globs : GlobsAre Tryd.prog Rows.shaSumsRow.laid gl := by
  intro g t x h
  unfold gl at h
  by_cases h0 : g = 0
  · subst h0; cases (show some _ = some (⟨t, x⟩ : Sigma Ty.den) from h); exact ⟨"escheat/sha.first", Rows.laid_escheat_sha_first, ((Tryd.prog.globals[0]?).map (·.type)).getD 0, by unfold Rows.shaSumsRow; simp, by kernel_rfl, by kernel_rfl, by kernel_rfl, by kernel_rfl⟩
  by_cases h1 : g = 1
  · subst h1; cases (show some _ = some (⟨t, x⟩ : Sigma Ty.den) from h); exact ⟨"escheat/sha.roots", Rows.laid_escheat_sha_roots, ((Tryd.prog.globals[1]?).map (·.type)).getD 0, by unfold Rows.shaSumsRow; simp, by kernel_rfl, by kernel_rfl, by kernel_rfl, by kernel_rfl⟩
  rw [show Nat.beq g 0 = false from by cases hb : Nat.beq g 0 with | true => exact absurd (Nat.eq_of_beq_eq_true hb) h0 | false => rfl, show Nat.beq g 1 = false from by cases hb : Nat.beq g 1 with | true => exact absurd (Nat.eq_of_beq_eq_true hb) h1 | false => rfl] at h; cases h
theorem lifted6 (os : Os) (started : os.Started) (H : Type) (enc : TypeId × Value → H) :
    ReturnsInHanded {} Tryd.checked os 6 .any (fun w args => (Rows.shaSumsSpec.pre enc Tryd.prog Tryd.f6 [] false w args ∧ laidMetH Tryd.prog Rows.shaSumsRow.laid w) ∧ sizedMet enc Tryd.prog Tryd.f6 (OpenSpec.ofChange Rows.shaSumsSpec) false w args) (Rows.shaSumsSpec.post enc Tryd.prog Tryd.f6 false true false false) :=
  law_step_laid (C := Tryd.checked) (T := 4) (laid := Rows.shaSumsRow.laid) (gl := gl) [tBytes] own_ (by kernel_rfl) Tryd.func6 (by kernel_rfl) (by kernel_rfl) laid_ rfl tys6 (by kernel_rfl) bool4 spec6 qlaw04_ShaSums (by kernel_rfl) globs os started H enc
    (ChangeSpec.witness_shaped (enc := enc) (C := Tryd.checked) (os := os) (X := fun w _ => laidMetH Tryd.prog Rows.shaSumsRow.laid w) false (World.doorLaid Tryd.prog 4000 os) #[.slice none 0 0] 8 rfl (World.shaped_of_RefB (by kernel_rfl) (by kernel_rfl)) (by kernel_rfl) (by kernel_rfl) (by kernel_rfl) (door_met os _))
theorem shaSums_row : Rows.ShaSumsSaid :=
  OpenClaim.holds_of_wide 6 Tryd.f6 rfl rfl rfl rfl rfl rfl rfl ⟨rfl, rfl, rfl, rfl, rfl⟩ rfl rfl rfl rfl rfl (by kernel_rfl) Tryd.func6 (by kernel_rfl)
    (of_decide_eq_true (by kernel_rfl)) (by unfold Func.isWrapper; first | (rw [if_pos (by decide +kernel)]; kernel_rfl) | (rw [if_neg (by decide +kernel)]; exact ⟨rfl, rfl⟩))
    (fun os started H enc _ => lifted6 os started H enc)
theorem wants6 : (Tryd.f6.params.toList.all fun t => !Tryd.prog.wantsStandIn t) = true := by kernel_rfl
theorem shaSums_card : Rows.ShaSumsCardSaid :=
  Claim7.holds_tied_plain_at .later [] [.data, .data] true (true, "fa6f774985376a15d10e77a3bf227e7d984742021b3a011dcb08a7f38da6ac57") false
    shaSums_row (fun _ h => by cases h) (by kernel_rfl) (fun _ h => by cases h) shaSums_row_tie rfl ⟨rfl, rfl⟩ (by kernel_rfl) rfl
    (fun f fn hf hfn => by
      obtain rfl : f = 6 := Option.some.inj ((show Tryd.prog.funcNamed "escheat/escheatlaw04.ShaSums" = some 6 by kernel_rfl).symm.trans hf) |>.symm
      obtain rfl : fn = Tryd.f6 := (Option.some.inj (Tryd.func6.symm.trans hfn)).symm
      refine ⟨by kernel_rfl, fun j t ht => ?_⟩
      have hm := List.all_eq_true.1 wants6 t (by rw [← Array.getElem?_toList] at ht; exact List.mem_of_getElem? ht)
      exact (show Tryd.prog.wantsStandIn t = false by simpa using hm))
    (by kernel_rfl)
end Go.Proofs.YtoecpaccpcnkcaaDoor
