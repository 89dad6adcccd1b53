/- What is kept is the chosen fields, whole, and what is kept and what is left are the fields and two ends. It narrows nothing: it holds for every input. -/
import Derived.Test.YtggccomebfpfpaaDoorBO
import Derived.Test.YtggccomebfpfpaaDoorRows
import Derived.Test.YtggccomebfpfpaaDoorBVcF
import Derived.Lay
import Derived.Test.YtggccomebfpfpaaDoorCards
import Derived.Test.YtggccomebfpfpaaDoorTie
import Derived.SevenTiedAt
set_option linter.unusedVariables false
set_option linter.unusedSimpArgs false
set_option maxRecDepth 100000
namespace Go.Proofs.YtggccomebfpfpaaDoor
open Go.Vc
open Go.ChangeShapes Go.WideShapes Go.ChangeAt Go.RowKit
theorem JK (x : aK [au, iW, .bool]) : bZ Tryd.prog (bg xB) (yj x.1 x.2.1 x.2.2) 4 (bU [au, iW, .bool] x) [] (zD [au, iW, .bool] x) = ni x.1 x.2.1 x.2.2 := by kernel_rfl
theorem JL : Pok 4 [au, iW, .bool] (fun x => zD [au, iW, .bool] x) := by
 refine pk (L := fun x => yj x.1 x.2.1 x.2.2) (l := xB) Na (fun _ => rfl) ?_
 intro x hv hp
 have hs : Jp [au, iW, .bool] x := hp _ (by simp [zD])
 rw [JK]
 exact Ib x.1 x.2.1 x.2.2 hv.2.1.2
theorem X7 : ownKnob Tryd.prog.godebug = none := by kernel_rfl
theorem XP : laidOutB Tryd.prog = true := by kernel_rfl
theorem X8 : OZ Tryd.prog Tryd.f4.params.toList [au, iW, .bool] = true := by kernel_rfl
theorem spec4 : ∀ (H : Type) (ds : List (DataW H)), ds.length = List.length (α := Ty) [au, iW, .bool] -> Rows.headOnlySpec.fn H ds = { results := [.lit (.bool true)], args := ds } := by
 intro H ds h
 match ds, h with
 | [_, _, _], _ => rfl
theorem XQ : Tryd.prog.underlying 4 = some .bool := by kernel_rfl
theorem globs : Hg Tryd.prog Rows.headOnlyRow.laid gl := by
 intro g t x h
 cases h
theorem lifted4 (os : Os) (started : os.Started) (H : Type) (enc : TypeId × Value -> H) :
 ReturnsInHanded {} Tryd.checked os 4 .any (fun w args => (Rows.headOnlySpec.pre enc Tryd.prog Tryd.f4 [] false w args /\ laidMetH Tryd.prog Rows.headOnlyRow.laid w) /\ sizedMet enc Tryd.prog Tryd.f4 (OpenSpec.ofChange Rows.headOnlySpec) false w args) (Rows.headOnlySpec.post enc Tryd.prog Tryd.f4 false true false false) :=
 Md (C := Tryd.checked) (T := 4) (laid := Rows.headOnlyRow.laid) (gl := gl) [au, iW, .bool] X7 (by kernel_rfl) Tryd.func4 (by kernel_rfl) (by kernel_rfl) XP rfl X8 (by kernel_rfl) XQ spec4 JL (by kernel_rfl) globs os started H enc
  (ChangeSpec.witness_shaped (enc := enc) (C := Tryd.checked) (os := os) (X := fun w _ => laidMetH Tryd.prog Rows.headOnlyRow.laid w) false (World.laidAll Tryd.prog os Rows.headOnlyRow.laid) #[.slice none 0 0, .slice none 0 0, .bool false] 8 (World.laidAll_os _ _ _) (World.shaped_of_ZipB (by kernel_rfl) (by kernel_rfl)) (by kernel_rfl) (by kernel_rfl) (by kernel_rfl) (by rw [MakeChecks.laidMetH_plain _ _ _ (by kernel_rfl)]; exact laidMet_laidAll _ (by kernel_rfl) (by kernel_rfl)))
theorem Qp : Rows.HeadOnlySaid :=
 OpenClaim.holds_of_wide 4 Tryd.f4 rfl rfl rfl rfl rfl rfl rfl ⟨rfl, rfl, rfl, rfl, rfl⟩ rfl rfl rfl rfl rfl (by kernel_rfl) Tryd.func4 (by kernel_rfl)
  (of_decide_eq_true (by kernel_rfl)) (by unfold Func.isWrapper; first | (rw [if_pos (by decide +kernel)]; kernel_rfl) | (rw [if_neg (by decide +kernel)]; exact ⟨rfl, rfl⟩))
  (fun os started H enc _ => lifted4 os started H enc)
theorem XB : (Tryd.f4.params.toList.all fun t => !Tryd.prog.wantsStandIn t) = true := by kernel_rfl
theorem headOnly_card : Rows.HeadOnlyCardSaid :=
 Claim7.holds_tied_plain_at .later [] [.data, .pinned] true (true, "a44cec0a8e73563d5a6a92cced93dfbe292868c51fc90d57c21eaa046bcdad7f") false
  Qp (fun _ h => by cases h) (by kernel_rfl) (fun _ h => by cases h) headOnly_row_tie rfl ⟨rfl, rfl⟩ (by kernel_rfl) rfl
  (fun f fn hf hfn => by
    obtain rfl : f = 4 := Option.some.inj ((show Tryd.prog.funcNamed "escheat/escheatlaw18.HeadOnly" = some 4 by kernel_rfl).symm.trans hf) |>.symm
    obtain rfl : fn = Tryd.f4 := (Option.some.inj (Tryd.func4.symm.trans hfn)).symm
    refine ⟨by kernel_rfl, fun j t ht => ?_⟩
    have hm := List.all_eq_true.1 XB t (by rw [<- Array.getElem?_toList] at ht; exact List.mem_of_getElem? ht)
    exact (show Tryd.prog.wantsStandIn t = false by simpa using hm))
  (by kernel_rfl)
end Go.Proofs.YtggccomebfpfpaaDoor
