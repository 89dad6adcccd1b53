/- An address of plain words is read as it is meant. It narrows nothing: it holds for every input. -/
import Derived.Test.YtlmkekoenfelcaaDoorPO
import Derived.Test.YtlmkekoenfelcaaDoorRows
import Derived.Test.YtlmkekoenfelcaaDoorPVcF
import Derived.Lay
import Derived.Test.YtlmkekoenfelcaaDoorCards
import Derived.Test.YtlmkekoenfelcaaDoorTie
import Derived.SevenTiedAt
set_option linter.unusedVariables false
set_option linter.unusedSimpArgs false
set_option maxRecDepth 100000
namespace Go.Proofs.YtlmkekoenfelcaaDoor
open Go.Vc
open Go.ChangeShapes Go.WideShapes Go.ChangeAt Go.RowKit
theorem BU (x : aT [.str, .str, .str]) : jk Tryd.prog (eX sG) (sH x.1 x.2.1 x.2.2) 5 (fQ [.str, .str, .str] x) [] (vK [.str, .str, .str] x) = kJ x.1 x.2.1 x.2.2 := by kernel_rfl
theorem BX : Pok 5 [.str, .str, .str] (fun x => vK [.str, .str, .str] x) := by
 refine pk (L := fun x => sH x.1 x.2.1 x.2.2) (l := sG) GL (fun _ => rfl) ?_
 intro x hv hp
 have hs : DV [.str, .str, .str] x := hp _ (by simp [vK])
 rw [BU]
 exact Ag x.1 x.2.1 x.2.2 hv
theorem RY : ownKnob Tryd.prog.godebug = none := by kernel_rfl
theorem Ru : laidOutB Tryd.prog = true := by kernel_rfl
theorem RZ : Je Tryd.prog Tryd.f5.params.toList [.str, .str, .str] = true := by kernel_rfl
theorem Rw : ∀ (H : Type) (ds : List (DataW H)), ds.length = List.length (α := Ty) [.str, .str, .str] -> Rows.addrPlainSpec.fn H ds = { results := [.lit (.bool true)], args := ds } := by
 intro H ds h
 match ds, h with
 | [_, _, _], _ => rfl
theorem Rx : Tryd.prog.underlying 4 = some .bool := by kernel_rfl
theorem globs : BK Tryd.prog Rows.addrPlainRow.laid gl := by
 intro g t x h
 cases h
theorem lifted5 (os : Os) (started : os.Started) (H : Type) (enc : TypeId × Value -> H) :
 ReturnsInHanded {} Tryd.checked os 5 .any (fun w args => (Rows.addrPlainSpec.pre enc Tryd.prog Tryd.f5 [] false w args /\ laidMetH Tryd.prog Rows.addrPlainRow.laid w) /\ sizedMet enc Tryd.prog Tryd.f5 (OpenSpec.ofChange Rows.addrPlainSpec) false w args) (Rows.addrPlainSpec.post enc Tryd.prog Tryd.f5 false true false false) :=
 Gq (C := Tryd.checked) (T := 4) (laid := Rows.addrPlainRow.laid) (gl := gl) [.str, .str, .str] RY (by kernel_rfl) Tryd.func5 (by kernel_rfl) (by kernel_rfl) Ru rfl RZ (by kernel_rfl) Rx Rw BX (by kernel_rfl) globs os started H enc
  (ChangeSpec.witness_shaped (enc := enc) (C := Tryd.checked) (os := os) (X := fun w _ => laidMetH Tryd.prog Rows.addrPlainRow.laid w) false (World.laidAll Tryd.prog os Rows.addrPlainRow.laid) #[.string ⟨#[]⟩, .string ⟨#[]⟩, .string ⟨#[]⟩] 8 (World.laidAll_os _ _ _) (World.shaped_of_ZipB (by kernel_rfl) (by kernel_rfl)) (by kernel_rfl) (by kernel_rfl) (by kernel_rfl) (by rw [MakeChecks.laidMetH_plain _ _ _ (by kernel_rfl)]; exact laidMet_laidAll _ (by kernel_rfl) (by kernel_rfl)))
theorem GN : Rows.AddrPlainSaid :=
 OpenClaim.holds_of_wide 5 Tryd.f5 rfl rfl rfl rfl rfl rfl rfl ⟨rfl, rfl, rfl, rfl, rfl⟩ rfl rfl rfl rfl rfl (by kernel_rfl) Tryd.func5 (by kernel_rfl)
  (of_decide_eq_true (by kernel_rfl)) (by unfold Func.isWrapper; first | (rw [if_pos (by decide +kernel)]; kernel_rfl) | (rw [if_neg (by decide +kernel)]; exact ⟨rfl, rfl⟩))
  (fun os started H enc _ => lifted5 os started H enc)
theorem QV : (Tryd.f5.params.toList.all fun t => !Tryd.prog.wantsStandIn t) = true := by kernel_rfl
theorem addrPlain_card : Rows.AddrPlainCardSaid :=
 Claim7.holds_tied_plain_at .later [] [.data, .pinned] true (true, "a05d060cb5d80fd529943f2af78985f83f11bb81ecacfb07773cccb8b4295aac") false
  GN (fun _ h => by cases h) (by kernel_rfl) (fun _ h => by cases h) addrPlain_row_tie rfl ⟨rfl, rfl⟩ (by kernel_rfl) rfl
  (fun f fn hf hfn => by
    obtain rfl : f = 5 := Option.some.inj ((show Tryd.prog.funcNamed "escheat/escheatlaw19.AddrPlain" = some 5 by kernel_rfl).symm.trans hf) |>.symm
    obtain rfl : fn = Tryd.f5 := (Option.some.inj (Tryd.func5.symm.trans hfn)).symm
    refine ⟨by kernel_rfl, fun j t ht => ?_⟩
    have hm := List.all_eq_true.1 QV t (by rw [<- Array.getElem?_toList] at ht; exact List.mem_of_getElem? ht)
    exact (show Tryd.prog.wantsStandIn t = false by simpa using hm))
  (by kernel_rfl)
end Go.Proofs.YtlmkekoenfelcaaDoor
