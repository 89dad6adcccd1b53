/- What is made links, behind its chain alone. It narrows nothing: it holds for every input. -/
import Derived.Test.YtkhdeldobekciaaDoorKO
import Derived.Test.YtkhdeldobekciaaDoorRows
import Derived.Test.YtkhdeldobekciaaDoorKVcF
import Derived.Lay
import Derived.Test.YtkhdeldobekciaaDoorCards
import Derived.Test.YtkhdeldobekciaaDoorTie
import Derived.SevenTiedAt
set_option linter.unusedVariables false
set_option linter.unusedSimpArgs false
set_option maxRecDepth 100000
namespace Go.Proofs.YtkhdeldobekciaaDoor
open Go.Vc
open Go.ChangeShapes Go.WideShapes Go.ChangeAt Go.RowKit
theorem Lc (x : aQ [oC, .int .u8]) : bY Tryd.prog (bC Dv) (zx x.1 x.2) 3 (bV [oC, .int .u8] x) [] (FB [oC, .int .u8] x) = oN x.1 x.2 := by kernel_rfl
theorem Ld : Pok 3 [oC, .int .u8] (fun x => FB [oC, .int .u8] x) := by
 refine pk (L := fun x => zx x.1 x.2) (l := Dv) UC (fun _ => rfl) ?_
 intro x hv hp
 have hs : P5 [oC, .int .u8] x := hp _ (by simp [FB])
 rw [Lc]
 exact IW x.1 x.2 hv
theorem aed : ownKnob Tryd.prog.godebug = none := by kernel_rfl
theorem adV : laidOutB Tryd.prog = true := by kernel_rfl
theorem aee : V5 Tryd.prog Tryd.f3.params.toList [oC, .int .u8] = true := by kernel_rfl
theorem spec3 : ∀ (H : Type) (ds : List (DataW H)), ds.length = List.length (α := Ty) [oC, .int .u8] -> Rows.recordLinksSpec.fn H ds = { results := [.lit (.bool true)], args := ds } := by
 intro H ds h
 match ds, h with
 | [_, _], _ => rfl
theorem adW : Tryd.prog.underlying 4 = some .bool := by kernel_rfl
theorem globs : Ol Tryd.prog Rows.recordLinksRow.laid gl := by
 intro g t x h
 unfold gl at h
 by_cases h0 : g = 0
 ·subst h0; cases (show some _ = some (⟨t, x⟩ : Sigma Ty.den) from h); exact ⟨"escheat/event.parts", Rows.laid_escheat_event_parts, ((Tryd.prog.globals[0]?).map (·.type)).getD 0, by unfold Rows.recordLinksRow; simp, by kernel_rfl, by kernel_rfl, by kernel_rfl, by kernel_rfl⟩
 by_cases h1 : g = 1
 ·subst h1; cases (show some _ = some (⟨t, x⟩ : Sigma Ty.den) from h); exact ⟨"escheat/sha.first", Rows.laid_escheat_sha_first, ((Tryd.prog.globals[1]?).map (·.type)).getD 0, by unfold Rows.recordLinksRow; simp, by kernel_rfl, by kernel_rfl, by kernel_rfl, by kernel_rfl⟩
 by_cases h2 : g = 2
 ·subst h2; cases (show some _ = some (⟨t, x⟩ : Sigma Ty.den) from h); exact ⟨"escheat/sha.roots", Rows.laid_escheat_sha_roots, ((Tryd.prog.globals[2]?).map (·.type)).getD 0, by unfold Rows.recordLinksRow; simp, by kernel_rfl, by kernel_rfl, by kernel_rfl, by kernel_rfl⟩
 rw [show Nat.beq g 0 = false from by cases hb : Nat.beq g 0 with | true => exact absurd (Nat.eq_of_beq_eq_true hb) h0 | false => rfl, show Nat.beq g 1 = false from by cases hb : Nat.beq g 1 with | true => exact absurd (Nat.eq_of_beq_eq_true hb) h1 | false => rfl, show Nat.beq g 2 = false from by cases hb : Nat.beq g 2 with | true => exact absurd (Nat.eq_of_beq_eq_true hb) h2 | false => rfl] at h; cases h
theorem lifted3 (os : Os) (started : os.Started) (H : Type) (enc : TypeId × Value -> H) :
 ReturnsInHanded {} Tryd.checked os 3 .any (fun w args => (Rows.recordLinksSpec.pre enc Tryd.prog Tryd.f3 [] false w args /\ laidMetH Tryd.prog Rows.recordLinksRow.laid w) /\ sizedMet enc Tryd.prog Tryd.f3 (OpenSpec.ofChange Rows.recordLinksSpec) false w args) (Rows.recordLinksSpec.post enc Tryd.prog Tryd.f3 false true false false) :=
 TM (C := Tryd.checked) (T := 4) (laid := Rows.recordLinksRow.laid) (gl := gl) [oC, .int .u8] aed (by kernel_rfl) Tryd.func3 (by kernel_rfl) (by kernel_rfl) adV rfl aee (by kernel_rfl) adW spec3 Ld (by kernel_rfl) globs os started H enc
  (ChangeSpec.witness_shaped (enc := enc) (C := Tryd.checked) (os := os) (X := fun w _ => laidMetH Tryd.prog Rows.recordLinksRow.laid w) false (World.laidAll Tryd.prog os Rows.recordLinksRow.laid) #[.slice none 0 0, .int .u8 0] 8 (World.laidAll_os _ _ _) (World.shaped_of_ZipB (by kernel_rfl) (by kernel_rfl)) (by kernel_rfl) (by kernel_rfl) (by kernel_rfl) (by rw [MakeChecks.laidMetH_plain _ _ _ (by kernel_rfl)]; exact laidMet_laidAll _ (by kernel_rfl) (by kernel_rfl)))
theorem Qz : Rows.RecordLinksSaid :=
 OpenClaim.holds_of_wide 3 Tryd.f3 rfl rfl rfl rfl rfl rfl rfl ⟨rfl, rfl, rfl, rfl, rfl⟩ rfl rfl rfl rfl rfl (by kernel_rfl) Tryd.func3 (by kernel_rfl)
  (of_decide_eq_true (by kernel_rfl)) (by unfold Func.isWrapper; first | (rw [if_pos (by decide +kernel)]; kernel_rfl) | (rw [if_neg (by decide +kernel)]; exact ⟨rfl, rfl⟩))
  (fun os started H enc _ => lifted3 os started H enc)
theorem adJ : (Tryd.f3.params.toList.all fun t => !Tryd.prog.wantsStandIn t) = true := by kernel_rfl
theorem recordLinks_card : Rows.RecordLinksCardSaid :=
 Claim7.holds_tied_plain_at .later [] [.data, .data, .data, .data, .data, .data, .pinned, .pinned] true (true, "83b29ade964f602d5acb9a1f29931d01896658d6378ebdd08415fb267086c5b5") false
  Qz (fun _ h => by cases h) (by kernel_rfl) (fun _ h => by cases h) recordLinks_row_tie rfl ⟨rfl, rfl⟩ (by kernel_rfl) rfl
  (fun f fn hf hfn => by
    obtain rfl : f = 3 := Option.some.inj ((show Tryd.prog.funcNamed "escheat/escheatlaw15.RecordLinks" = some 3 by kernel_rfl).symm.trans hf) |>.symm
    obtain rfl : fn = Tryd.f3 := (Option.some.inj (Tryd.func3.symm.trans hfn)).symm
    refine ⟨by kernel_rfl, fun j t ht => ?_⟩
    have hm := List.all_eq_true.1 adJ t (by rw [<- Array.getElem?_toList] at ht; exact List.mem_of_getElem? ht)
    exact (show Tryd.prog.wantsStandIn t = false by simpa using hm))
  (by kernel_rfl)
end Go.Proofs.YtkhdeldobekciaaDoor
