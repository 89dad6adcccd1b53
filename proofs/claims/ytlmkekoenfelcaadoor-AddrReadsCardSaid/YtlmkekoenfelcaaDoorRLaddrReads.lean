/- Any text's items and addresses are the document's. It narrows nothing: it holds for every input. -/
import Derived.Test.YtlmkekoenfelcaaDoorRO
import Derived.Test.YtlmkekoenfelcaaDoorRows
import Derived.Test.YtlmkekoenfelcaaDoorRVcF
import Derived.Lay
import Derived.Test.YtlmkekoenfelcaaDoorCards
import Derived.Test.YtlmkekoenfelcaaDoorTie
import Derived.SevenTiedAt
set_option linter.unusedVariables false
set_option linter.unusedSimpArgs false
set_option maxRecDepth 100000
namespace Go.Proofs.YtlmkekoenfelcaaDoor
open Go.Vc
open Go.ChangeShapes Go.WideShapes Go.ChangeAt Go.RowKit
theorem Ej (x : aT [.str]) : gu Tryd.prog (dw vg) (vk x) 3 (dN [.str] x) [] (xJ [.str] x) = lG x := by kernel_rfl
theorem Em : Pok 3 [.str] (fun x => xJ [.str] x) := by
 refine pk (L := fun x => vk x) (l := vg) Jv (fun _ => rfl) ?_
 intro x hv hp
 have hs : FI [.str] x := hp _ (by simp [xJ])
 rw [Ej]
 exact CG x hv
theorem U6 : ownKnob Tryd.prog.godebug = none := by kernel_rfl
theorem UK : laidOutB Tryd.prog = true := by kernel_rfl
theorem U7 : Lr Tryd.prog Tryd.f3.params.toList [.str] = true := by kernel_rfl
theorem spec3 : ∀ (H : Type) (ds : List (DataW H)), ds.length = List.length (α := Ty) [.str] -> Rows.addrReadsSpec.fn H ds = { results := [.lit (.bool true)], args := ds } := by
 intro H ds h
 match ds, h with
 | [_], _ => rfl
theorem UL : Tryd.prog.underlying 4 = some .bool := by kernel_rfl
theorem globs : D8 Tryd.prog Rows.addrReadsRow.laid gl := by
 intro g t x h
 cases h
theorem lifted3 (os : Os) (started : os.Started) (H : Type) (enc : TypeId × Value -> H) :
 ReturnsInHanded {} Tryd.checked os 3 .any (fun w args => (Rows.addrReadsSpec.pre enc Tryd.prog Tryd.f3 [] false w args /\ laidMetH Tryd.prog Rows.addrReadsRow.laid w) /\ sizedMet enc Tryd.prog Tryd.f3 (OpenSpec.ofChange Rows.addrReadsSpec) false w args) (Rows.addrReadsSpec.post enc Tryd.prog Tryd.f3 false true false false) :=
 Jd (C := Tryd.checked) (T := 4) (laid := Rows.addrReadsRow.laid) (gl := gl) [.str] U6 (by kernel_rfl) Tryd.func3 (by kernel_rfl) (by kernel_rfl) UK rfl U7 (by kernel_rfl) UL spec3 Em (by kernel_rfl) globs os started H enc
  (ChangeSpec.witness_shaped (enc := enc) (C := Tryd.checked) (os := os) (X := fun w _ => laidMetH Tryd.prog Rows.addrReadsRow.laid w) false (World.laidAll Tryd.prog os Rows.addrReadsRow.laid) #[.string ⟨#[]⟩] 8 (World.laidAll_os _ _ _) (World.shaped_of_ZipB (by kernel_rfl) (by kernel_rfl)) (by kernel_rfl) (by kernel_rfl) (by kernel_rfl) (by rw [MakeChecks.laidMetH_plain _ _ _ (by kernel_rfl)]; exact laidMet_laidAll _ (by kernel_rfl) (by kernel_rfl)))
theorem Jw : Rows.AddrReadsSaid :=
 OpenClaim.holds_of_wide 3 Tryd.f3 rfl rfl rfl rfl rfl rfl rfl ⟨rfl, rfl, rfl, rfl, rfl⟩ rfl rfl rfl rfl rfl (by kernel_rfl) Tryd.func3 (by kernel_rfl)
  (of_decide_eq_true (by kernel_rfl)) (by unfold Func.isWrapper; first | (rw [if_pos (by decide +kernel)]; kernel_rfl) | (rw [if_neg (by decide +kernel)]; exact ⟨rfl, rfl⟩))
  (fun os started H enc _ => lifted3 os started H enc)
theorem Um : (Tryd.f3.params.toList.all fun t => !Tryd.prog.wantsStandIn t) = true := by kernel_rfl
theorem addrReads_card : Rows.AddrReadsCardSaid :=
 Claim7.holds_tied_plain_at .later [] [.data, .pinned] true (true, "a05d060cb5d80fd529943f2af78985f83f11bb81ecacfb07773cccb8b4295aac") false
  Jw (fun _ h => by cases h) (by kernel_rfl) (fun _ h => by cases h) addrReads_row_tie rfl ⟨rfl, rfl⟩ (by kernel_rfl) rfl
  (fun f fn hf hfn => by
    obtain rfl : f = 3 := Option.some.inj ((show Tryd.prog.funcNamed "escheat/escheatlaw19.AddrReads" = some 3 by kernel_rfl).symm.trans hf) |>.symm
    obtain rfl : fn = Tryd.f3 := (Option.some.inj (Tryd.func3.symm.trans hfn)).symm
    refine ⟨by kernel_rfl, fun j t ht => ?_⟩
    have hm := List.all_eq_true.1 Um t (by rw [<- Array.getElem?_toList] at ht; exact List.mem_of_getElem? ht)
    exact (show Tryd.prog.wantsStandIn t = false by simpa using hm))
  (by kernel_rfl)
end Go.Proofs.YtlmkekoenfelcaaDoor
