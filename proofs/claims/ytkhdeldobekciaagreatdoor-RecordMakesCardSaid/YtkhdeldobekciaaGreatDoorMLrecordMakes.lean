/- Any event's record, behind any chain, is the document's, or refused. It narrows nothing: it holds for every input. -/
import Derived.Test.YtkhdeldobekciaaGreatDoorMO
import Derived.Test.YtkhdeldobekciaaGreatDoorRows
import Derived.Test.YtkhdeldobekciaaGreatDoorMVcF
import Derived.Lay
import Derived.Test.YtkhdeldobekciaaGreatDoorCards
import Derived.Test.YtkhdeldobekciaaGreatDoorTie
import Derived.SevenTiedAt
set_option linter.unusedVariables false
set_option linter.unusedSimpArgs false
set_option maxRecDepth 100000
namespace Go.Proofs.YtkhdeldobekciaaGreatDoor
open Go.Vc
open Go.ChangeShapes Go.WideShapes Go.ChangeAt Go.RowKit
theorem QY (x : aG [bY, bD]) : bf Tryz.prog (aK Ic) (Dn x.1 x.2) 3 (aY [bY, bD] x) [] (JY [bY, bD] x) = rE x.1 x.2 := by kernel_rfl
theorem QZ : Pok 3 [bY, bD] (fun x => JY [bY, bD] x) := by
 refine pk (L := fun x => Dn x.1 x.2) (l := Ic) aaA (fun _ => rfl) ?_
 intro x hv hp
 have hs : V8 [bY, bD] x := hp _ (by simp [JY])
 rw [QY]
 exact Oh x.1 x.2
theorem ak2 : ownKnob Tryz.prog.godebug = none := by kernel_rfl
theorem akO : laidOutB Tryz.prog = true := by kernel_rfl
theorem ak3 : abS Tryz.prog Tryz.f3.params.toList [bY, bD] = true := by kernel_rfl
theorem spec3 : ∀ (H : Type) (ds : List (DataW H)), ds.length = List.length (α := Ty) [bY, bD] -> Rows.recordMakesSpec.fn H ds = { results := [.lit (.bool true)], args := ds } := by
 intro H ds h
 match ds, h with
 | [_, _], _ => rfl
theorem akP : Tryz.prog.underlying 4 = some .bool := by kernel_rfl
theorem globs : UC Tryz.prog Rows.recordMakesRow.laid gl := by
 intro g t x h
 unfold gl at h
 by_cases h0 : g = 0
 ·subst h0; cases (show some _ = some (⟨t, x⟩ : Sigma Ty.den) from h); exact ⟨"escheat/event.parts", Rows.laid_escheat_event_parts, ((Tryz.prog.globals[0]?).map (·.type)).getD 0, by unfold Rows.recordMakesRow; simp, by kernel_rfl, by kernel_rfl, by kernel_rfl, by kernel_rfl⟩
 by_cases h1 : g = 1
 ·subst h1; cases (show some _ = some (⟨t, x⟩ : Sigma Ty.den) from h); exact ⟨"escheat/sha.first", Rows.laid_escheat_sha_first, ((Tryz.prog.globals[1]?).map (·.type)).getD 0, by unfold Rows.recordMakesRow; simp, by kernel_rfl, by kernel_rfl, by kernel_rfl, by kernel_rfl⟩
 by_cases h2 : g = 2
 ·subst h2; cases (show some _ = some (⟨t, x⟩ : Sigma Ty.den) from h); exact ⟨"escheat/sha.roots", Rows.laid_escheat_sha_roots, ((Tryz.prog.globals[2]?).map (·.type)).getD 0, by unfold Rows.recordMakesRow; simp, by kernel_rfl, by kernel_rfl, by kernel_rfl, by kernel_rfl⟩
 rw [show Nat.beq g 0 = false from by cases hb : Nat.beq g 0 with | true => exact absurd (Nat.eq_of_beq_eq_true hb) h0 | false => rfl, show Nat.beq g 1 = false from by cases hb : Nat.beq g 1 with | true => exact absurd (Nat.eq_of_beq_eq_true hb) h1 | false => rfl, show Nat.beq g 2 = false from by cases hb : Nat.beq g 2 with | true => exact absurd (Nat.eq_of_beq_eq_true hb) h2 | false => rfl] at h; cases h
theorem lifted3 (os : Os) (started : os.Started) (H : Type) (enc : TypeId × Value -> H) :
 ReturnsInHanded {} Tryz.checked os 3 .any (fun w args => (Rows.recordMakesSpec.pre enc Tryz.prog Tryz.f3 [] false w args /\ laidMetH Tryz.prog Rows.recordMakesRow.laid w) /\ sizedMet enc Tryz.prog Tryz.f3 (OpenSpec.ofChange Rows.recordMakesSpec) false w args) (Rows.recordMakesSpec.post enc Tryz.prog Tryz.f3 false true false false) :=
 Zl (C := Tryz.checked) (T := 4) (laid := Rows.recordMakesRow.laid) (gl := gl) [bY, bD] ak2 (by kernel_rfl) Tryz.func3 (by kernel_rfl) (by kernel_rfl) akO rfl ak3 (by kernel_rfl) akP spec3 QZ (by kernel_rfl) globs os started H enc
  (ChangeSpec.witness_shaped (enc := enc) (C := Tryz.checked) (os := os) (X := fun w _ => laidMetH Tryz.prog Rows.recordMakesRow.laid w) false (World.laidAll Tryz.prog os Rows.recordMakesRow.laid) #[.agg #[.int .u8 0, .int .u8 0, .int .u8 0, .int .u8 0, .int .u8 0, .int .u8 0, .int .u8 0, .int .u8 0, .int .u8 0, .int .u8 0, .int .u8 0, .int .u8 0, .int .u8 0, .int .u8 0, .int .u8 0, .int .u8 0, .int .u8 0, .int .u8 0, .int .u8 0, .int .u8 0, .int .u8 0, .int .u8 0, .int .u8 0, .int .u8 0, .int .u8 0, .int .u8 0, .int .u8 0, .int .u8 0, .int .u8 0, .int .u8 0, .int .u8 0, .int .u8 0, .int .i64 0], .agg #[.int .i64 0, .int .i64 0, .string ⟨#[]⟩, .string ⟨#[]⟩, .slice none 0 0, .slice none 0 0, .int .i64 0, .int .i64 0, .int .i64 0, .int .i64 0, .slice none 0 0]] 8 (World.laidAll_os _ _ _) (World.shaped_of_ZipB (by kernel_rfl) (by kernel_rfl)) (by kernel_rfl) (by kernel_rfl) (by kernel_rfl) (by rw [MakeChecks.laidMetH_plain _ _ _ (by kernel_rfl)]; exact laidMet_laidAll _ (by kernel_rfl) (by kernel_rfl)))
theorem Xv : Rows.RecordMakesSaid :=
 OpenClaim.holds_of_wide 3 Tryz.f3 rfl rfl rfl rfl rfl rfl rfl ⟨rfl, rfl, rfl, rfl, rfl⟩ rfl rfl rfl rfl rfl (by kernel_rfl) Tryz.func3 (by kernel_rfl)
  (of_decide_eq_true (by kernel_rfl)) (by unfold Func.isWrapper; first | (rw [if_pos (by decide +kernel)]; kernel_rfl) | (rw [if_neg (by decide +kernel)]; exact ⟨rfl, rfl⟩))
  (fun os started H enc _ => lifted3 os started H enc)
theorem aky : (Tryz.f3.params.toList.all fun t => !Tryz.prog.wantsStandIn t) = true := by kernel_rfl
theorem recordMakes_card : Rows.RecordMakesCardSaid :=
 Claim7.holds_tied_plain_at .later [] [.data, .data, .data, .data, .data, .data, .pinned, .pinned] true (true, "7537b8f9def97f82e1f62d2add1730c8b0221400917de0986f10370b773485ee") false
  Xv (fun _ h => by cases h) (by kernel_rfl) (fun _ h => by cases h) recordMakes_row_tie rfl ⟨rfl, rfl⟩ (by kernel_rfl) rfl
  (fun f fn hf hfn => by
    obtain rfl : f = 3 := Option.some.inj ((show Tryz.prog.funcNamed "escheat/escheatlaw15.RecordMakes" = some 3 by kernel_rfl).symm.trans hf) |>.symm
    obtain rfl : fn = Tryz.f3 := (Option.some.inj (Tryz.func3.symm.trans hfn)).symm
    refine ⟨by kernel_rfl, fun j t ht => ?_⟩
    have hm := List.all_eq_true.1 aky t (by rw [<- Array.getElem?_toList] at ht; exact List.mem_of_getElem? ht)
    exact (show Tryz.prog.wantsStandIn t = false by simpa using hm))
  (by kernel_rfl)
end Go.Proofs.YtkhdeldobekciaaGreatDoor
