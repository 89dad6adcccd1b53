/- A comment of words behind an address changes nothing. It narrows nothing: it holds for every input. -/
import Derived.Test.YtlmkekoenfelcaaDoorCO
import Derived.Test.YtlmkekoenfelcaaDoorRows
import Derived.Test.YtlmkekoenfelcaaDoorCVcF
import Derived.Lay
import Derived.Test.YtlmkekoenfelcaaDoorCards
import Derived.Test.YtlmkekoenfelcaaDoorTie
import Derived.SevenTiedAt
set_option linter.unusedVariables false
set_option linter.unusedSimpArgs false
set_option maxRecDepth 100000
namespace Go.Proofs.YtlmkekoenfelcaaDoor
open Go.Vc
open Go.ChangeShapes Go.WideShapes Go.ChangeAt Go.RowKit
theorem yx (x : aU [.str, .str]) : iL Tryd.prog (dS sZ) (nI x.1 x.2) 6 (fC [.str, .str] x) [] (vU [.str, .str] x) = jy x.1 x.2 := by kernel_rfl
theorem yA : Pok 6 [.str, .str] (fun x => vU [.str, .str] x) := by
 refine pk (L := fun x => nI x.1 x.2) (l := sZ) He (fun _ => rfl) ?_
 intro x hv hp
 have hs : Ea [.str, .str] x := hp _ (by simp [vU])
 rw [yx]
 exact xP x.1 x.2 hv
theorem SX : ownKnob Tryd.prog.godebug = none := by kernel_rfl
theorem Sl : laidOutB Tryd.prog = true := by kernel_rfl
theorem SY : Jr Tryd.prog Tryd.f6.params.toList [.str, .str] = true := by kernel_rfl
theorem spec6 : ∀ (H : Type) (ds : List (DataW H)), ds.length = List.length (α := Ty) [.str, .str] -> Rows.addrCommentsSpec.fn H ds = { results := [.lit (.bool true)], args := ds } := by
 intro H ds h
 match ds, h with
 | [_, _], _ => rfl
theorem Sm : Tryd.prog.underlying 4 = some .bool := by kernel_rfl
theorem globs : Ce Tryd.prog Rows.addrCommentsRow.laid gl := by
 intro g t x h
 cases h
theorem lifted6 (os : Os) (started : os.Started) (H : Type) (enc : TypeId × Value -> H) :
 ReturnsInHanded {} Tryd.checked os 6 .any (fun w args => (Rows.addrCommentsSpec.pre enc Tryd.prog Tryd.f6 [] false w args /\ laidMetH Tryd.prog Rows.addrCommentsRow.laid w) /\ sizedMet enc Tryd.prog Tryd.f6 (OpenSpec.ofChange Rows.addrCommentsSpec) false w args) (Rows.addrCommentsSpec.post enc Tryd.prog Tryd.f6 false true false false) :=
 GK (C := Tryd.checked) (T := 4) (laid := Rows.addrCommentsRow.laid) (gl := gl) [.str, .str] SX (by kernel_rfl) Tryd.func6 (by kernel_rfl) (by kernel_rfl) Sl rfl SY (by kernel_rfl) Sm spec6 yA (by kernel_rfl) globs os started H enc
  (ChangeSpec.witness_shaped (enc := enc) (C := Tryd.checked) (os := os) (X := fun w _ => laidMetH Tryd.prog Rows.addrCommentsRow.laid w) false (World.laidAll Tryd.prog os Rows.addrCommentsRow.laid) #[.string ⟨#[]⟩, .string ⟨#[]⟩] 8 (World.laidAll_os _ _ _) (World.shaped_of_ZipB (by kernel_rfl) (by kernel_rfl)) (by kernel_rfl) (by kernel_rfl) (by kernel_rfl) (by rw [MakeChecks.laidMetH_plain _ _ _ (by kernel_rfl)]; exact laidMet_laidAll _ (by kernel_rfl) (by kernel_rfl)))
theorem CJ : Rows.AddrCommentsSaid :=
 OpenClaim.holds_of_wide 6 Tryd.f6 rfl rfl rfl rfl rfl rfl rfl ⟨rfl, rfl, rfl, rfl, rfl⟩ rfl rfl rfl rfl rfl (by kernel_rfl) Tryd.func6 (by kernel_rfl)
  (of_decide_eq_true (by kernel_rfl)) (by unfold Func.isWrapper; first | (rw [if_pos (by decide +kernel)]; kernel_rfl) | (rw [if_neg (by decide +kernel)]; exact ⟨rfl, rfl⟩))
  (fun os started H enc _ => lifted6 os started H enc)
theorem Rw : (Tryd.f6.params.toList.all fun t => !Tryd.prog.wantsStandIn t) = true := by kernel_rfl
theorem addrComments_card : Rows.AddrCommentsCardSaid :=
 Claim7.holds_tied_plain_at .later [] [.data, .pinned] true (true, "a05d060cb5d80fd529943f2af78985f83f11bb81ecacfb07773cccb8b4295aac") false
  CJ (fun _ h => by cases h) (by kernel_rfl) (fun _ h => by cases h) addrComments_row_tie rfl ⟨rfl, rfl⟩ (by kernel_rfl) rfl
  (fun f fn hf hfn => by
    obtain rfl : f = 6 := Option.some.inj ((show Tryd.prog.funcNamed "escheat/escheatlaw19.AddrComments" = some 6 by kernel_rfl).symm.trans hf) |>.symm
    obtain rfl : fn = Tryd.f6 := (Option.some.inj (Tryd.func6.symm.trans hfn)).symm
    refine ⟨by kernel_rfl, fun j t ht => ?_⟩
    have hm := List.all_eq_true.1 Rw t (by rw [<- Array.getElem?_toList] at ht; exact List.mem_of_getElem? ht)
    exact (show Tryd.prog.wantsStandIn t = false by simpa using hm))
  (by kernel_rfl)
end Go.Proofs.YtlmkekoenfelcaaDoor
