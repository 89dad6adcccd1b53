/- A record is the head that it is behind, its number, and its event, and has nothing else. It narrows nothing: it holds for every input. -/
import Derived.Test.YtkhdeldobekciaaDoorPO
import Derived.Test.YtkhdeldobekciaaDoorRows
import Derived.Test.YtkhdeldobekciaaDoorPVcF
import Derived.Lay
import Derived.Test.YtkhdeldobekciaaDoorCards
import Derived.Test.YtkhdeldobekciaaDoorTie
import Derived.SevenTiedAt
set_option linter.unusedVariables false
set_option linter.unusedSimpArgs false
set_option maxRecDepth 100000
namespace Go.Proofs.YtkhdeldobekciaaDoor
open Go.Vc
open Go.ChangeShapes Go.WideShapes Go.ChangeAt Go.RowKit
theorem Oi (x : aI [dJ, bI]) : bM Tryd.prog (aU ER) (AL x.1 x.2) 4 (bK [dJ, bI] x) [] (Hl [dJ, bI] x) = pX x.1 x.2 := by kernel_rfl
theorem Oj : Pok 4 [dJ, bI] (fun x => Hl [dJ, bI] x) := by
 refine pk (L := fun x => AL x.1 x.2) (l := ER) Xw (fun _ => rfl) ?_
 intro x hv hp
 have hs : SE [dJ, bI] x := hp _ (by simp [Hl])
 rw [Oi]
 exact KL x.1 x.2 hv
theorem ag1 : ownKnob Tryd.prog.godebug = none := by kernel_rfl
theorem agL : laidOutB Tryd.prog = true := by kernel_rfl
theorem ag2 : YS Tryd.prog Tryd.f4.params.toList [dJ, bI] = true := by kernel_rfl
theorem spec4 : ∀ (H : Type) (ds : List (DataW H)), ds.length = List.length (α := Ty) [dJ, bI] -> Rows.recordPartsSpec.fn H ds = { results := [.lit (.bool true)], args := ds } := by
 intro H ds h
 match ds, h with
 | [_, _], _ => rfl
theorem agM : Tryd.prog.underlying 4 = some .bool := by kernel_rfl
theorem globs : QB Tryd.prog Rows.recordPartsRow.laid gl := by
 intro g t x h
 unfold gl at h
 by_cases h0 : g = 0
 ·subst h0; cases (show some _ = some (⟨t, x⟩ : Sigma Ty.den) from h); exact ⟨"escheat/event.parts", Rows.laid_escheat_event_parts, ((Tryd.prog.globals[0]?).map (·.type)).getD 0, by unfold Rows.recordPartsRow; simp, by kernel_rfl, by kernel_rfl, by kernel_rfl, by kernel_rfl⟩
 by_cases h1 : g = 1
 ·subst h1; cases (show some _ = some (⟨t, x⟩ : Sigma Ty.den) from h); exact ⟨"escheat/sha.first", Rows.laid_escheat_sha_first, ((Tryd.prog.globals[1]?).map (·.type)).getD 0, by unfold Rows.recordPartsRow; simp, by kernel_rfl, by kernel_rfl, by kernel_rfl, by kernel_rfl⟩
 by_cases h2 : g = 2
 ·subst h2; cases (show some _ = some (⟨t, x⟩ : Sigma Ty.den) from h); exact ⟨"escheat/sha.roots", Rows.laid_escheat_sha_roots, ((Tryd.prog.globals[2]?).map (·.type)).getD 0, by unfold Rows.recordPartsRow; simp, by kernel_rfl, by kernel_rfl, by kernel_rfl, by kernel_rfl⟩
 rw [show Nat.beq g 0 = false from by cases hb : Nat.beq g 0 with | true => exact absurd (Nat.eq_of_beq_eq_true hb) h0 | false => rfl, show Nat.beq g 1 = false from by cases hb : Nat.beq g 1 with | true => exact absurd (Nat.eq_of_beq_eq_true hb) h1 | false => rfl, show Nat.beq g 2 = false from by cases hb : Nat.beq g 2 with | true => exact absurd (Nat.eq_of_beq_eq_true hb) h2 | false => rfl] at h; cases h
theorem lifted4 (os : Os) (started : os.Started) (H : Type) (enc : TypeId × Value -> H) :
 ReturnsInHanded {} Tryd.checked os 4 .any (fun w args => (Rows.recordPartsSpec.pre enc Tryd.prog Tryd.f4 [] false w args /\ laidMetH Tryd.prog Rows.recordPartsRow.laid w) /\ sizedMet enc Tryd.prog Tryd.f4 (OpenSpec.ofChange Rows.recordPartsSpec) false w args) (Rows.recordPartsSpec.post enc Tryd.prog Tryd.f4 false true false false) :=
 Wi (C := Tryd.checked) (T := 4) (laid := Rows.recordPartsRow.laid) (gl := gl) [dJ, bI] ag1 (by kernel_rfl) Tryd.func4 (by kernel_rfl) (by kernel_rfl) agL rfl ag2 (by kernel_rfl) agM spec4 Oj (by kernel_rfl) globs os started H enc
  (ChangeSpec.witness_shaped (enc := enc) (C := Tryd.checked) (os := os) (X := fun w _ => laidMetH Tryd.prog Rows.recordPartsRow.laid w) false (World.laidAll Tryd.prog os Rows.recordPartsRow.laid) #[.agg #[.int .u8 0, .int .u8 0, .int .u8 0, .int .u8 0, .int .u8 0, .int .u8 0, .int .u8 0, .int .u8 0, .int .u8 0, .int .u8 0, .int .u8 0, .int .u8 0, .int .u8 0, .int .u8 0, .int .u8 0, .int .u8 0, .int .u8 0, .int .u8 0, .int .u8 0, .int .u8 0, .int .u8 0, .int .u8 0, .int .u8 0, .int .u8 0, .int .u8 0, .int .u8 0, .int .u8 0, .int .u8 0, .int .u8 0, .int .u8 0, .int .u8 0, .int .u8 0, .int .i64 0], .agg #[.int .i64 0, .int .i64 0, .string ⟨#[]⟩, .string ⟨#[]⟩, .slice none 0 0, .slice none 0 0, .int .i64 0, .int .i64 0, .int .i64 0, .int .i64 0, .slice none 0 0]] 8 (World.laidAll_os _ _ _) (World.shaped_of_ZipB (by kernel_rfl) (by kernel_rfl)) (by kernel_rfl) (by kernel_rfl) (by kernel_rfl) (by rw [MakeChecks.laidMetH_plain _ _ _ (by kernel_rfl)]; exact laidMet_laidAll _ (by kernel_rfl) (by kernel_rfl)))
theorem Ua : Rows.RecordPartsSaid :=
 OpenClaim.holds_of_wide 4 Tryd.f4 rfl rfl rfl rfl rfl rfl rfl ⟨rfl, rfl, rfl, rfl, rfl⟩ rfl rfl rfl rfl rfl (by kernel_rfl) Tryd.func4 (by kernel_rfl)
  (of_decide_eq_true (by kernel_rfl)) (by unfold Func.isWrapper; first | (rw [if_pos (by decide +kernel)]; kernel_rfl) | (rw [if_neg (by decide +kernel)]; exact ⟨rfl, rfl⟩))
  (fun os started H enc _ => lifted4 os started H enc)
theorem agx : (Tryd.f4.params.toList.all fun t => !Tryd.prog.wantsStandIn t) = true := by kernel_rfl
theorem recordParts_card : Rows.RecordPartsCardSaid :=
 Claim7.holds_tied_plain_at .later [] [.data, .data, .data, .data, .data, .data, .pinned, .pinned] true (true, "83b29ade964f602d5acb9a1f29931d01896658d6378ebdd08415fb267086c5b5") false
  Ua (fun _ h => by cases h) (by kernel_rfl) (fun _ h => by cases h) recordParts_row_tie rfl ⟨rfl, rfl⟩ (by kernel_rfl) rfl
  (fun f fn hf hfn => by
    obtain rfl : f = 4 := Option.some.inj ((show Tryd.prog.funcNamed "escheat/escheatlaw15.RecordParts" = some 4 by kernel_rfl).symm.trans hf) |>.symm
    obtain rfl : fn = Tryd.f4 := (Option.some.inj (Tryd.func4.symm.trans hfn)).symm
    refine ⟨by kernel_rfl, fun j t ht => ?_⟩
    have hm := List.all_eq_true.1 agx t (by rw [<- Array.getElem?_toList] at ht; exact List.mem_of_getElem? ht)
    exact (show Tryd.prog.wantsStandIn t = false by simpa using hm))
  (by kernel_rfl)
end Go.Proofs.YtkhdeldobekciaaDoor
