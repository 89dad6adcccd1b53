/- The first field of a name is what a name brings, its letters' size aside. It narrows nothing: it holds for every input. -/
import Derived.Test.YtggccomebfpfpaaDoorDO
import Derived.Test.YtggccomebfpfpaaDoorRows
import Derived.Test.YtggccomebfpfpaaDoorDVcF
import Derived.Lay
import Derived.Test.YtggccomebfpfpaaDoorCards
import Derived.Test.YtggccomebfpfpaaDoorTie
import Derived.SevenTiedAt
set_option linter.unusedVariables false
set_option linter.unusedSimpArgs false
set_option maxRecDepth 100000
namespace Go.Proofs.YtggccomebfpfpaaDoor
open Go.Vc
open Go.ChangeShapes Go.WideShapes Go.ChangeAt Go.RowKit
theorem ER (x : aO [aA, .int .u8]) : dR Tryd.prog (bM vg) (vk x.1 x.2) 6 (dF [aA, .int .u8] x) [] (xQ [aA, .int .u8] x) = kW x.1 x.2 := by kernel_rfl
theorem ES : Pok 6 [aA, .int .u8] (fun x => xQ [aA, .int .u8] x) := by
 refine pk (L := fun x => vk x.1 x.2) (l := vg) JD (fun _ => rfl) ?_
 intro x hv hp
 have hs : Gt [aA, .int .u8] x := hp _ (by simp [xQ])
 rw [ER]
 exact Df x.1 x.2 hv.1.1 hv.2
theorem U6 : ownKnob Tryd.prog.godebug = none := by kernel_rfl
theorem UO : laidOutB Tryd.prog = true := by kernel_rfl
theorem U7 : LP Tryd.prog Tryd.f6.params.toList [aA, .int .u8] = true := by kernel_rfl
theorem spec6 : ∀ (H : Type) (ds : List (DataW H)), ds.length = List.length (α := Ty) [aA, .int .u8] -> Rows.headNamesSpec.fn H ds = { results := [.lit (.bool true)], args := ds } := by
 intro H ds h
 match ds, h with
 | [_, _], _ => rfl
theorem UQ : Tryd.prog.underlying 4 = some .bool := by kernel_rfl
theorem globs : Eu Tryd.prog Rows.headNamesRow.laid gl := by
 intro g t x h
 cases h
theorem lifted6 (os : Os) (started : os.Started) (H : Type) (enc : TypeId × Value -> H) :
 ReturnsInHanded {} Tryd.checked os 6 .any (fun w args => (Rows.headNamesSpec.pre enc Tryd.prog Tryd.f6 [] false w args /\ laidMetH Tryd.prog Rows.headNamesRow.laid w) /\ sizedMet enc Tryd.prog Tryd.f6 (OpenSpec.ofChange Rows.headNamesSpec) false w args) (Rows.headNamesSpec.post enc Tryd.prog Tryd.f6 false true false false) :=
 Jo (C := Tryd.checked) (T := 4) (laid := Rows.headNamesRow.laid) (gl := gl) [aA, .int .u8] U6 (by kernel_rfl) Tryd.func6 (by kernel_rfl) (by kernel_rfl) UO rfl U7 (by kernel_rfl) UQ spec6 ES (by kernel_rfl) globs os started H enc
  (ChangeSpec.witness_shaped (enc := enc) (C := Tryd.checked) (os := os) (X := fun w _ => laidMetH Tryd.prog Rows.headNamesRow.laid w) false (World.laidAll Tryd.prog os Rows.headNamesRow.laid) #[.slice none 0 0, .int .u8 0] 8 (World.laidAll_os _ _ _) (World.shaped_of_ZipB (by kernel_rfl) (by kernel_rfl)) (by kernel_rfl) (by kernel_rfl) (by kernel_rfl) (by rw [MakeChecks.laidMetH_plain _ _ _ (by kernel_rfl)]; exact laidMet_laidAll _ (by kernel_rfl) (by kernel_rfl)))
theorem JE : Rows.HeadNamesSaid :=
 OpenClaim.holds_of_wide 6 Tryd.f6 rfl rfl rfl rfl rfl rfl rfl ⟨rfl, rfl, rfl, rfl, rfl⟩ rfl rfl rfl rfl rfl (by kernel_rfl) Tryd.func6 (by kernel_rfl)
  (of_decide_eq_true (by kernel_rfl)) (by unfold Func.isWrapper; first | (rw [if_pos (by decide +kernel)]; kernel_rfl) | (rw [if_neg (by decide +kernel)]; exact ⟨rfl, rfl⟩))
  (fun os started H enc _ => lifted6 os started H enc)
theorem Uz : (Tryd.f6.params.toList.all fun t => !Tryd.prog.wantsStandIn t) = true := by kernel_rfl
theorem headNames_card : Rows.HeadNamesCardSaid :=
 Claim7.holds_tied_plain_at .later [] [.data, .pinned] true (true, "a44cec0a8e73563d5a6a92cced93dfbe292868c51fc90d57c21eaa046bcdad7f") false
  JE (fun _ h => by cases h) (by kernel_rfl) (fun _ h => by cases h) headNames_row_tie rfl ⟨rfl, rfl⟩ (by kernel_rfl) rfl
  (fun f fn hf hfn => by
    obtain rfl : f = 6 := Option.some.inj ((show Tryd.prog.funcNamed "escheat/escheatlaw18.HeadNames" = some 6 by kernel_rfl).symm.trans hf) |>.symm
    obtain rfl : fn = Tryd.f6 := (Option.some.inj (Tryd.func6.symm.trans hfn)).symm
    refine ⟨by kernel_rfl, fun j t ht => ?_⟩
    have hm := List.all_eq_true.1 Uz t (by rw [<- Array.getElem?_toList] at ht; exact List.mem_of_getElem? ht)
    exact (show Tryd.prog.wantsStandIn t = false by simpa using hm))
  (by kernel_rfl)
end Go.Proofs.YtggccomebfpfpaaDoor
