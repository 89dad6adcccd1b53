/- Any bytes are the document's record, and link behind any chain as it says, or are refused, for its reason. It narrows nothing: it holds for every input. -/
import Derived.Test.YtkhdeldobekciaaGreatDoorRO
import Derived.Test.YtkhdeldobekciaaGreatDoorRows
import Derived.Test.YtkhdeldobekciaaGreatDoorRVcF
import Derived.Lay
import Derived.Test.YtkhdeldobekciaaGreatDoorCards
import Derived.Test.YtkhdeldobekciaaGreatDoorTie
import Derived.SevenTiedAt
set_option linter.unusedVariables false
set_option linter.unusedSimpArgs false
set_option maxRecDepth 100000
namespace Go.Proofs.YtkhdeldobekciaaGreatDoor
open Go.Vc
open Go.ChangeShapes Go.WideShapes Go.ChangeAt Go.RowKit
theorem TY (x : aP [aI, dH]) : bg Tryz.prog (aT JD) (EU x.1 x.2) 4 (aZ [aI, dH] x) [] (LX [aI, dH] x) = sV x.1 x.2 := by kernel_rfl
theorem Ua : Pok 4 [aI, dH] (fun x => LX [aI, dH] x) := by
 refine pk (L := fun x => EU x.1 x.2) (l := JD) acu (fun _ => rfl) ?_
 intro x hv hp
 have hs : Yq [aI, dH] x := hp _ (by simp [LX])
 rw [TY]
 exact Qj x.1 x.2
theorem amH : ownKnob Tryz.prog.godebug = none := by kernel_rfl
theorem amq : laidOutB Tryz.prog = true := by kernel_rfl
theorem amI : adJ Tryz.prog Tryz.f4.params.toList [aI, dH] = true := by kernel_rfl
theorem spec4 : ∀ (H : Type) (ds : List (DataW H)), ds.length = List.length (α := Ty) [aI, dH] -> Rows.recordReadsSpec.fn H ds = { results := [.lit (.bool true)], args := ds } := by
 intro H ds h
 match ds, h with
 | [_, _], _ => rfl
theorem amr : Tryz.prog.underlying 4 = some .bool := by kernel_rfl
theorem globs : WQ Tryz.prog Rows.recordReadsRow.laid gl := by
 intro g t x h
 unfold gl at h
 by_cases h0 : g = 0
 ·subst h0; cases (show some _ = some (⟨t, x⟩ : Sigma Ty.den) from h); exact ⟨"escheat/event.parts", Rows.laid_escheat_event_parts, ((Tryz.prog.globals[0]?).map (·.type)).getD 0, by unfold Rows.recordReadsRow; simp, by kernel_rfl, by kernel_rfl, by kernel_rfl, by kernel_rfl⟩
 by_cases h1 : g = 1
 ·subst h1; cases (show some _ = some (⟨t, x⟩ : Sigma Ty.den) from h); exact ⟨"escheat/sha.first", Rows.laid_escheat_sha_first, ((Tryz.prog.globals[1]?).map (·.type)).getD 0, by unfold Rows.recordReadsRow; simp, by kernel_rfl, by kernel_rfl, by kernel_rfl, by kernel_rfl⟩
 by_cases h2 : g = 2
 ·subst h2; cases (show some _ = some (⟨t, x⟩ : Sigma Ty.den) from h); exact ⟨"escheat/sha.roots", Rows.laid_escheat_sha_roots, ((Tryz.prog.globals[2]?).map (·.type)).getD 0, by unfold Rows.recordReadsRow; simp, by kernel_rfl, by kernel_rfl, by kernel_rfl, by kernel_rfl⟩
 rw [show Nat.beq g 0 = false from by cases hb : Nat.beq g 0 with | true => exact absurd (Nat.eq_of_beq_eq_true hb) h0 | false => rfl, show Nat.beq g 1 = false from by cases hb : Nat.beq g 1 with | true => exact absurd (Nat.eq_of_beq_eq_true hb) h1 | false => rfl, show Nat.beq g 2 = false from by cases hb : Nat.beq g 2 with | true => exact absurd (Nat.eq_of_beq_eq_true hb) h2 | false => rfl] at h; cases h
theorem lifted4 (os : Os) (started : os.Started) (H : Type) (enc : TypeId × Value -> H) :
 ReturnsInHanded {} Tryz.checked os 4 .any (fun w args => (Rows.recordReadsSpec.pre enc Tryz.prog Tryz.f4 [] false w args /\ laidMetH Tryz.prog Rows.recordReadsRow.laid w) /\ sizedMet enc Tryz.prog Tryz.f4 (OpenSpec.ofChange Rows.recordReadsSpec) false w args) (Rows.recordReadsSpec.post enc Tryz.prog Tryz.f4 false true false false) :=
 abf (C := Tryz.checked) (T := 4) (laid := Rows.recordReadsRow.laid) (gl := gl) [aI, dH] amH (by kernel_rfl) Tryz.func4 (by kernel_rfl) (by kernel_rfl) amq rfl amI (by kernel_rfl) amr spec4 Ua (by kernel_rfl) globs os started H enc
  (ChangeSpec.witness_shaped (enc := enc) (C := Tryz.checked) (os := os) (X := fun w _ => laidMetH Tryz.prog Rows.recordReadsRow.laid w) false (World.laidAll Tryz.prog os Rows.recordReadsRow.laid) #[.slice none 0 0, .agg #[.int .u8 0, .int .u8 0, .int .u8 0, .int .u8 0, .int .u8 0, .int .u8 0, .int .u8 0, .int .u8 0, .int .u8 0, .int .u8 0, .int .u8 0, .int .u8 0, .int .u8 0, .int .u8 0, .int .u8 0, .int .u8 0, .int .u8 0, .int .u8 0, .int .u8 0, .int .u8 0, .int .u8 0, .int .u8 0, .int .u8 0, .int .u8 0, .int .u8 0, .int .u8 0, .int .u8 0, .int .u8 0, .int .u8 0, .int .u8 0, .int .u8 0, .int .u8 0, .int .i64 0]] 8 (World.laidAll_os _ _ _) (World.shaped_of_ZipB (by kernel_rfl) (by kernel_rfl)) (by kernel_rfl) (by kernel_rfl) (by kernel_rfl) (by rw [MakeChecks.laidMetH_plain _ _ _ (by kernel_rfl)]; exact laidMet_laidAll _ (by kernel_rfl) (by kernel_rfl)))
theorem Zi : Rows.RecordReadsSaid :=
 OpenClaim.holds_of_wide 4 Tryz.f4 rfl rfl rfl rfl rfl rfl rfl ⟨rfl, rfl, rfl, rfl, rfl⟩ rfl rfl rfl rfl rfl (by kernel_rfl) Tryz.func4 (by kernel_rfl)
  (of_decide_eq_true (by kernel_rfl)) (by unfold Func.isWrapper; first | (rw [if_pos (by decide +kernel)]; kernel_rfl) | (rw [if_neg (by decide +kernel)]; exact ⟨rfl, rfl⟩))
  (fun os started H enc _ => lifted4 os started H enc)
theorem al9 : (Tryz.f4.params.toList.all fun t => !Tryz.prog.wantsStandIn t) = true := by kernel_rfl
theorem recordReads_card : Rows.RecordReadsCardSaid :=
 Claim7.holds_tied_plain_at .later [] [.data, .data, .data, .data, .data, .data, .pinned, .pinned] true (true, "7537b8f9def97f82e1f62d2add1730c8b0221400917de0986f10370b773485ee") false
  Zi (fun _ h => by cases h) (by kernel_rfl) (fun _ h => by cases h) recordReads_row_tie rfl ⟨rfl, rfl⟩ (by kernel_rfl) rfl
  (fun f fn hf hfn => by
    obtain rfl : f = 4 := Option.some.inj ((show Tryz.prog.funcNamed "escheat/escheatlaw15.RecordReads" = some 4 by kernel_rfl).symm.trans hf) |>.symm
    obtain rfl : fn = Tryz.f4 := (Option.some.inj (Tryz.func4.symm.trans hfn)).symm
    refine ⟨by kernel_rfl, fun j t ht => ?_⟩
    have hm := List.all_eq_true.1 al9 t (by rw [<- Array.getElem?_toList] at ht; exact List.mem_of_getElem? ht)
    exact (show Tryz.prog.wantsStandIn t = false by simpa using hm))
  (by kernel_rfl)
end Go.Proofs.YtkhdeldobekciaaGreatDoor
