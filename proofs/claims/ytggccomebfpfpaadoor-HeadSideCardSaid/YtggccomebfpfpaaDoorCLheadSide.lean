/- Fields lie one behind the other, from the start to the body. It narrows nothing: it holds for every input. -/
import Derived.Test.YtggccomebfpfpaaDoorCO
import Derived.Test.YtggccomebfpfpaaDoorRows
import Derived.Test.YtggccomebfpfpaaDoorCVcF
import Derived.Lay
import Derived.Test.YtggccomebfpfpaaDoorCards
import Derived.Test.YtggccomebfpfpaaDoorTie
import Derived.SevenTiedAt
set_option linter.unusedVariables false
set_option linter.unusedSimpArgs false
set_option maxRecDepth 100000
namespace Go.Proofs.YtggccomebfpfpaaDoor
open Go.Vc
open Go.ChangeShapes Go.WideShapes Go.ChangeAt Go.RowKit
theorem He (x : aK [aA]) : dB Tryd.prog (bJ vC) (wz x) 5 (dh [aA] x) [] (xX [aA] x) = lN x := by kernel_rfl
theorem Hf : Pok 5 [aA] (fun x => xX [aA] x) := by
 refine pk (L := fun x => wz x) (l := vC) JO (fun _ => rfl) ?_
 intro x hv hp
 have hs : GH [aA] x := hp _ (by simp [xX])
 rw [He]
 exact E5 x hv.2
theorem Vl : ownKnob Tryd.prog.godebug = none := by kernel_rfl
theorem U5 : laidOutB Tryd.prog = true := by kernel_rfl
theorem Vm : L8 Tryd.prog Tryd.f5.params.toList [aA] = true := by kernel_rfl
theorem U6 : ∀ (H : Type) (ds : List (DataW H)), ds.length = List.length (α := Ty) [aA] -> Rows.headSideSpec.fn H ds = { results := [.lit (.bool true)], args := ds } := by
 intro H ds h
 match ds, h with
 | [_], _ => rfl
theorem U7 : Tryd.prog.underlying 4 = some .bool := by kernel_rfl
theorem globs : EH Tryd.prog Rows.headSideRow.laid gl := by
 intro g t x h
 cases h
theorem lifted5 (os : Os) (started : os.Started) (H : Type) (enc : TypeId × Value -> H) :
 ReturnsInHanded {} Tryd.checked os 5 .any (fun w args => (Rows.headSideSpec.pre enc Tryd.prog Tryd.f5 [] false w args /\ laidMetH Tryd.prog Rows.headSideRow.laid w) /\ sizedMet enc Tryd.prog Tryd.f5 (OpenSpec.ofChange Rows.headSideSpec) false w args) (Rows.headSideSpec.post enc Tryd.prog Tryd.f5 false true false false) :=
 Jy (C := Tryd.checked) (T := 4) (laid := Rows.headSideRow.laid) (gl := gl) [aA] Vl (by kernel_rfl) Tryd.func5 (by kernel_rfl) (by kernel_rfl) U5 rfl Vm (by kernel_rfl) U7 U6 Hf (by kernel_rfl) globs os started H enc
  (ChangeSpec.witness_shaped (enc := enc) (C := Tryd.checked) (os := os) (X := fun w _ => laidMetH Tryd.prog Rows.headSideRow.laid w) false (World.laidAll Tryd.prog os Rows.headSideRow.laid) #[.slice none 0 0] 8 (World.laidAll_os _ _ _) (World.shaped_of_ZipB (by kernel_rfl) (by kernel_rfl)) (by kernel_rfl) (by kernel_rfl) (by kernel_rfl) (by rw [MakeChecks.laidMetH_plain _ _ _ (by kernel_rfl)]; exact laidMet_laidAll _ (by kernel_rfl) (by kernel_rfl)))
theorem ND : Rows.HeadSideSaid :=
 OpenClaim.holds_of_wide 5 Tryd.f5 rfl rfl rfl rfl rfl rfl rfl ⟨rfl, rfl, rfl, rfl, rfl⟩ rfl rfl rfl rfl rfl (by kernel_rfl) Tryd.func5 (by kernel_rfl)
  (of_decide_eq_true (by kernel_rfl)) (by unfold Func.isWrapper; first | (rw [if_pos (by decide +kernel)]; kernel_rfl) | (rw [if_neg (by decide +kernel)]; exact ⟨rfl, rfl⟩))
  (fun os started H enc _ => lifted5 os started H enc)
theorem UN : (Tryd.f5.params.toList.all fun t => !Tryd.prog.wantsStandIn t) = true := by kernel_rfl
theorem headSide_card : Rows.HeadSideCardSaid :=
 Claim7.holds_tied_plain_at .later [] [.data, .pinned] true (true, "a44cec0a8e73563d5a6a92cced93dfbe292868c51fc90d57c21eaa046bcdad7f") false
  ND (fun _ h => by cases h) (by kernel_rfl) (fun _ h => by cases h) headSide_row_tie rfl ⟨rfl, rfl⟩ (by kernel_rfl) rfl
  (fun f fn hf hfn => by
    obtain rfl : f = 5 := Option.some.inj ((show Tryd.prog.funcNamed "escheat/escheatlaw18.HeadSide" = some 5 by kernel_rfl).symm.trans hf) |>.symm
    obtain rfl : fn = Tryd.f5 := (Option.some.inj (Tryd.func5.symm.trans hfn)).symm
    refine ⟨by kernel_rfl, fun j t ht => ?_⟩
    have hm := List.all_eq_true.1 UN t (by rw [<- Array.getElem?_toList] at ht; exact List.mem_of_getElem? ht)
    exact (show Tryd.prog.wantsStandIn t = false by simpa using hm))
  (by kernel_rfl)
end Go.Proofs.YtggccomebfpfpaaDoor
