/- Any bytes' fields, their names, their texts, and their body are the document's. It narrows nothing: it holds for every input. -/
import Derived.Test.YtggccomebfpfpaaDoorAO
import Derived.Test.YtggccomebfpfpaaDoorRows
import Derived.Test.YtggccomebfpfpaaDoorAVcF
import Derived.Lay
import Derived.Test.YtggccomebfpfpaaDoorCards
import Derived.Test.YtggccomebfpfpaaDoorTie
import Derived.SevenTiedAt
set_option linter.unusedVariables false
set_option linter.unusedSimpArgs false
set_option maxRecDepth 100000
namespace Go.Proofs.YtggccomebfpfpaaDoor
open Go.Vc
open Go.ChangeShapes Go.WideShapes Go.ChangeAt Go.RowKit
theorem Iq (x : aJ [au, .str, au]) : bY Tryd.prog (aZ xM) (xO x.1 x.2.1 x.2.2) 3 (bQ [au, .str, au] x) [] (zL [au, .str, au] x) = lS x.1 x.2.1 x.2.2 := by kernel_rfl
theorem Ir : Pok 3 [au, .str, au] (fun x => zL [au, .str, au] x) := by
 refine pk (L := fun x => xO x.1 x.2.1 x.2.2) (l := xM) Nw (fun _ => rfl) ?_
 intro x hv hp
 have hs : JC [au, .str, au] x := hp _ (by simp [zL])
 rw [Iq]
 exact FP x.1 x.2.1 x.2.2 hv.1.2
theorem Yr : ownKnob Tryd.prog.godebug = none := by kernel_rfl
theorem Ye : laidOutB Tryd.prog = true := by kernel_rfl
theorem Yt : Pq Tryd.prog Tryd.f3.params.toList [au, .str, au] = true := by kernel_rfl
theorem spec3 : ∀ (H : Type) (ds : List (DataW H)), ds.length = List.length (α := Ty) [au, .str, au] -> Rows.headReadsSpec.fn H ds = { results := [.lit (.bool true)], args := ds } := by
 intro H ds h
 match ds, h with
 | [_, _, _], _ => rfl
theorem Yf : Tryd.prog.underlying 4 = some .bool := by kernel_rfl
theorem globs : H7 Tryd.prog Rows.headReadsRow.laid gl := by
 intro g t x h
 cases h
theorem lifted3 (os : Os) (started : os.Started) (H : Type) (enc : TypeId × Value -> H) :
 ReturnsInHanded {} Tryd.checked os 3 .any (fun w args => (Rows.headReadsSpec.pre enc Tryd.prog Tryd.f3 [] false w args /\ laidMetH Tryd.prog Rows.headReadsRow.laid w) /\ sizedMet enc Tryd.prog Tryd.f3 (OpenSpec.ofChange Rows.headReadsSpec) false w args) (Rows.headReadsSpec.post enc Tryd.prog Tryd.f3 false true false false) :=
 MN (C := Tryd.checked) (T := 4) (laid := Rows.headReadsRow.laid) (gl := gl) [au, .str, au] Yr (by kernel_rfl) Tryd.func3 (by kernel_rfl) (by kernel_rfl) Ye rfl Yt (by kernel_rfl) Yf spec3 Ir (by kernel_rfl) globs os started H enc
  (ChangeSpec.witness_shaped (enc := enc) (C := Tryd.checked) (os := os) (X := fun w _ => laidMetH Tryd.prog Rows.headReadsRow.laid w) false (World.laidAll Tryd.prog os Rows.headReadsRow.laid) #[.slice none 0 0, .string ⟨#[]⟩, .slice none 0 0] 8 (World.laidAll_os _ _ _) (World.shaped_of_ZipB (by kernel_rfl) (by kernel_rfl)) (by kernel_rfl) (by kernel_rfl) (by kernel_rfl) (by rw [MakeChecks.laidMetH_plain _ _ _ (by kernel_rfl)]; exact laidMet_laidAll _ (by kernel_rfl) (by kernel_rfl)))
theorem Ny : Rows.HeadReadsSaid :=
 OpenClaim.holds_of_wide 3 Tryd.f3 rfl rfl rfl rfl rfl rfl rfl ⟨rfl, rfl, rfl, rfl, rfl⟩ rfl rfl rfl rfl rfl (by kernel_rfl) Tryd.func3 (by kernel_rfl)
  (of_decide_eq_true (by kernel_rfl)) (by unfold Func.isWrapper; first | (rw [if_pos (by decide +kernel)]; kernel_rfl) | (rw [if_neg (by decide +kernel)]; exact ⟨rfl, rfl⟩))
  (fun os started H enc _ => lifted3 os started H enc)
theorem XZ : (Tryd.f3.params.toList.all fun t => !Tryd.prog.wantsStandIn t) = true := by kernel_rfl
theorem headReads_card : Rows.HeadReadsCardSaid :=
 Claim7.holds_tied_plain_at .later [] [.data, .pinned] true (true, "a44cec0a8e73563d5a6a92cced93dfbe292868c51fc90d57c21eaa046bcdad7f") false
  Ny (fun _ h => by cases h) (by kernel_rfl) (fun _ h => by cases h) headReads_row_tie rfl ⟨rfl, rfl⟩ (by kernel_rfl) rfl
  (fun f fn hf hfn => by
    obtain rfl : f = 3 := Option.some.inj ((show Tryd.prog.funcNamed "escheat/escheatlaw18.HeadReads" = some 3 by kernel_rfl).symm.trans hf) |>.symm
    obtain rfl : fn = Tryd.f3 := (Option.some.inj (Tryd.func3.symm.trans hfn)).symm
    refine ⟨by kernel_rfl, fun j t ht => ?_⟩
    have hm := List.all_eq_true.1 XZ t (by rw [<- Array.getElem?_toList] at ht; exact List.mem_of_getElem? ht)
    exact (show Tryd.prog.wantsStandIn t = false by simpa using hm))
  (by kernel_rfl)
end Go.Proofs.YtggccomebfpfpaaDoor
