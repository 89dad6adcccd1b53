/- Items, with commas between, are the text. It narrows nothing: it holds for every input. -/
import Derived.Test.YtlmkekoenfelcaaDoorAO
import Derived.Test.YtlmkekoenfelcaaDoorRows
import Derived.Test.YtlmkekoenfelcaaDoorAVcF
import Derived.Lay
import Derived.Test.YtlmkekoenfelcaaDoorCards
import Derived.Test.YtlmkekoenfelcaaDoorTie
import Derived.SevenTiedAt
set_option linter.unusedVariables false
set_option linter.unusedSimpArgs false
set_option maxRecDepth 100000
namespace Go.Proofs.YtlmkekoenfelcaaDoor
open Go.Vc
open Go.ChangeShapes Go.WideShapes Go.ChangeAt Go.RowKit
theorem Ew (x : aT [.str]) : jE Tryd.prog (fD rV) (vG x) 4 (gU [.str] x) [] (uV [.str] x) = mX x := by kernel_rfl
theorem Ey : Pok 4 [.str] (fun x => uV [.str] x) := by
 refine pk (L := fun x => vG x) (l := rV) FX (fun _ => rfl) ?_
 intro x hv hp
 have hs : Di [.str] x := hp _ (by simp [uV])
 rw [Ew]
 exact DF x hv
theorem QV : ownKnob Tryd.prog.godebug = none := by kernel_rfl
theorem QC : laidOutB Tryd.prog = true := by kernel_rfl
theorem QW : Iu Tryd.prog Tryd.f4.params.toList [.str] = true := by kernel_rfl
theorem spec4 : ∀ (H : Type) (ds : List (DataW H)), ds.length = List.length (α := Ty) [.str] -> Rows.addrAllSpec.fn H ds = { results := [.lit (.bool true)], args := ds } := by
 intro H ds h
 match ds, h with
 | [_], _ => rfl
theorem QD : Tryd.prog.underlying 4 = some .bool := by kernel_rfl
theorem globs : Ba Tryd.prog Rows.addrAllRow.laid gl := by
 intro g t x h
 cases h
theorem lifted4 (os : Os) (started : os.Started) (H : Type) (enc : TypeId × Value -> H) :
 ReturnsInHanded {} Tryd.checked os 4 .any (fun w args => (Rows.addrAllSpec.pre enc Tryd.prog Tryd.f4 [] false w args /\ laidMetH Tryd.prog Rows.addrAllRow.laid w) /\ sizedMet enc Tryd.prog Tryd.f4 (OpenSpec.ofChange Rows.addrAllSpec) false w args) (Rows.addrAllSpec.post enc Tryd.prog Tryd.f4 false true false false) :=
 FD (C := Tryd.checked) (T := 4) (laid := Rows.addrAllRow.laid) (gl := gl) [.str] QV (by kernel_rfl) Tryd.func4 (by kernel_rfl) (by kernel_rfl) QC rfl QW (by kernel_rfl) QD spec4 Ey (by kernel_rfl) globs os started H enc
  (ChangeSpec.witness_shaped (enc := enc) (C := Tryd.checked) (os := os) (X := fun w _ => laidMetH Tryd.prog Rows.addrAllRow.laid w) false (World.laidAll Tryd.prog os Rows.addrAllRow.laid) #[.string ⟨#[]⟩] 8 (World.laidAll_os _ _ _) (World.shaped_of_ZipB (by kernel_rfl) (by kernel_rfl)) (by kernel_rfl) (by kernel_rfl) (by kernel_rfl) (by rw [MakeChecks.laidMetH_plain _ _ _ (by kernel_rfl)]; exact laidMet_laidAll _ (by kernel_rfl) (by kernel_rfl)))
theorem JR : Rows.AddrAllSaid :=
 OpenClaim.holds_of_wide 4 Tryd.f4 rfl rfl rfl rfl rfl rfl rfl ⟨rfl, rfl, rfl, rfl, rfl⟩ rfl rfl rfl rfl rfl (by kernel_rfl) Tryd.func4 (by kernel_rfl)
  (of_decide_eq_true (by kernel_rfl)) (by unfold Func.isWrapper; first | (rw [if_pos (by decide +kernel)]; kernel_rfl) | (rw [if_neg (by decide +kernel)]; exact ⟨rfl, rfl⟩))
  (fun os started H enc _ => lifted4 os started H enc)
theorem Qi : (Tryd.f4.params.toList.all fun t => !Tryd.prog.wantsStandIn t) = true := by kernel_rfl
theorem addrAll_card : Rows.AddrAllCardSaid :=
 Claim7.holds_tied_plain_at .later [] [.data, .pinned] true (true, "a05d060cb5d80fd529943f2af78985f83f11bb81ecacfb07773cccb8b4295aac") false
  JR (fun _ h => by cases h) (by kernel_rfl) (fun _ h => by cases h) addrAll_row_tie rfl ⟨rfl, rfl⟩ (by kernel_rfl) rfl
  (fun f fn hf hfn => by
    obtain rfl : f = 4 := Option.some.inj ((show Tryd.prog.funcNamed "escheat/escheatlaw19.AddrAll" = some 4 by kernel_rfl).symm.trans hf) |>.symm
    obtain rfl : fn = Tryd.f4 := (Option.some.inj (Tryd.func4.symm.trans hfn)).symm
    refine ⟨by kernel_rfl, fun j t ht => ?_⟩
    have hm := List.all_eq_true.1 Qi t (by rw [<- Array.getElem?_toList] at ht; exact List.mem_of_getElem? ht)
    exact (show Tryd.prog.wantsStandIn t = false by simpa using hm))
  (by kernel_rfl)
end Go.Proofs.YtlmkekoenfelcaaDoor
