/- An event's bytes, cut short, or gone on with, are none. It narrows nothing: it holds for every input. -/
import Derived.Test.YtllmhikoaklpbaaDoorH
import Derived.Test.YtllmhikoaklpbaaDoorRows
import Derived.Test.YtllmhikoaklpbaaDoorVcF
import Derived.Lay
import Derived.Test.YtllmhikoaklpbaaDoorCards
import Derived.Test.YtllmhikoaklpbaaDoorTie
import Derived.SevenTiedAt
set_option linter.unusedVariables false
set_option linter.unusedSimpArgs false
set_option maxRecDepth 100000
namespace Go.Proofs.YtllmhikoaklpbaaDoor
open Go.Vc
open Go.ChangeShapes Go.WideShapes Go.ChangeAt Go.RowKit
theorem wlaw12_EventEnds (x : DenL [tEvent, .int .u16, .int .u8]) : Owes Tryd.prog (cfgOf Qlaw12_alive) (Llaw12_EventEnds x.1 x.2.1 x.2.2) 5 (argVs [tEvent, .int .u16, .int .u8] x) [] (sayTrue [tEvent, .int .u16, .int .u8] x) = vclaw12_EventEnds x.1 x.2.1 x.2.2 := by kernel_rfl
theorem qlaw12_EventEnds : Pok 5 [tEvent, .int .u16, .int .u8] (fun x => sayTrue [tEvent, .int .u16, .int .u8] x) := by
  refine pk (L := fun x => Llaw12_EventEnds x.1 x.2.1 x.2.2) (l := Qlaw12_alive) aQlaw12_alive (fun _ => rfl) ?_
  intro x hv hp
  have hs : ShortL [tEvent, .int .u16, .int .u8] x := hp _ (by simp [sayTrue])
  rw [wlaw12_EventEnds]
  exact oklaw12_EventEnds x.1 x.2.1 x.2.2 hv.2.1
theorem own_ : ownKnob Tryd.prog.godebug = none := by kernel_rfl
theorem laid_ : laidOutB Tryd.prog = true := by kernel_rfl
theorem tys5 : tysB Tryd.prog Tryd.f5.params.toList [tEvent, .int .u16, .int .u8] = true := by kernel_rfl
theorem spec5 : ∀ (H : Type) (ds : List (DataW H)), ds.length = List.length (α := Ty) [tEvent, .int .u16, .int .u8] → Rows.eventEndsSpec.fn H ds = { results := [.lit (.bool true)], args := ds } := by
  intro H ds h
  match ds, h with
  | [_, _, _], _ => rfl
theorem bool4 : Tryd.prog.underlying 4 = some .bool := by kernel_rfl
theorem globs : GlobsAre Tryd.prog Rows.eventEndsRow.laid gl := by
  intro g t x h
  unfold gl at h
  by_cases h0 : g = 0
  · subst h0; cases (show some _ = some (⟨t, x⟩ : Sigma Ty.den) from h); exact ⟨"escheat/event.parts", Rows.laid_escheat_event_parts, ((Tryd.prog.globals[0]?).map (·.type)).getD 0, by unfold Rows.eventEndsRow; simp, by kernel_rfl, by kernel_rfl, by kernel_rfl, by kernel_rfl⟩
  rw [show Nat.beq g 0 = false from by cases hb : Nat.beq g 0 with | true => exact absurd (Nat.eq_of_beq_eq_true hb) h0 | false => rfl] at h; cases h
theorem lifted5 (os : Os) (started : os.Started) (H : Type) (enc : TypeId × Value → H) :
    ReturnsInHanded {} Tryd.checked os 5 .any (fun w args => (Rows.eventEndsSpec.pre enc Tryd.prog Tryd.f5 [] false w args ∧ laidMetH Tryd.prog Rows.eventEndsRow.laid w) ∧ sizedMet enc Tryd.prog Tryd.f5 (OpenSpec.ofChange Rows.eventEndsSpec) false w args) (Rows.eventEndsSpec.post enc Tryd.prog Tryd.f5 false true false false) :=
  law_step_laid (C := Tryd.checked) (T := 4) (laid := Rows.eventEndsRow.laid) (gl := gl) [tEvent, .int .u16, .int .u8] own_ (by kernel_rfl) Tryd.func5 (by kernel_rfl) (by kernel_rfl) laid_ rfl tys5 (by kernel_rfl) bool4 spec5 qlaw12_EventEnds (by kernel_rfl) globs os started H enc
    (ChangeSpec.witness_shaped (enc := enc) (C := Tryd.checked) (os := os) (X := fun w _ => laidMetH Tryd.prog Rows.eventEndsRow.laid w) false (World.laidAll Tryd.prog os Rows.eventEndsRow.laid) #[.agg #[.int .i64 0, .int .i64 0, .string ⟨#[]⟩, .string ⟨#[]⟩, .slice none 0 0, .slice none 0 0, .int .i64 0, .int .i64 0, .int .i64 0, .int .i64 0, .slice none 0 0], .int .u16 0, .int .u8 0] 8 (World.laidAll_os _ _ _) (World.shaped_of_ZipB (by kernel_rfl) (by kernel_rfl)) (by kernel_rfl) (by kernel_rfl) (by kernel_rfl) (by rw [MakeChecks.laidMetH_plain _ _ _ (by kernel_rfl)]; exact laidMet_laidAll _ (by kernel_rfl) (by kernel_rfl)))
theorem eventEnds_row : Rows.EventEndsSaid :=
  OpenClaim.holds_of_wide 5 Tryd.f5 rfl rfl rfl rfl rfl rfl rfl ⟨rfl, rfl, rfl, rfl, rfl⟩ rfl rfl rfl rfl rfl (by kernel_rfl) Tryd.func5 (by kernel_rfl)
    (of_decide_eq_true (by kernel_rfl)) (by unfold Func.isWrapper; first | (rw [if_pos (by decide +kernel)]; kernel_rfl) | (rw [if_neg (by decide +kernel)]; exact ⟨rfl, rfl⟩))
    (fun os started H enc _ => lifted5 os started H enc)
theorem wants5 : (Tryd.f5.params.toList.all fun t => !Tryd.prog.wantsStandIn t) = true := by kernel_rfl
theorem eventEnds_card : Rows.EventEndsCardSaid :=
  Claim7.holds_tied_plain_at .later [] [.data, .data, .data, .data, .pinned, .pinned] true (true, "ce0b18a71e9b74cb6c0655e7ca977d598959b48ffc01a042c1122b7c3a3fcfe3") false
    eventEnds_row (fun _ h => by cases h) (by kernel_rfl) (fun _ h => by cases h) eventEnds_row_tie rfl ⟨rfl, rfl⟩ (by kernel_rfl) rfl
    (fun f fn hf hfn => by
      obtain rfl : f = 5 := Option.some.inj ((show Tryd.prog.funcNamed "escheat/escheatlaw12.EventEnds" = some 5 by kernel_rfl).symm.trans hf) |>.symm
      obtain rfl : fn = Tryd.f5 := (Option.some.inj (Tryd.func5.symm.trans hfn)).symm
      refine ⟨by kernel_rfl, fun j t ht => ?_⟩
      have hm := List.all_eq_true.1 wants5 t (by rw [← Array.getElem?_toList] at ht; exact List.mem_of_getElem? ht)
      exact (show Tryd.prog.wantsStandIn t = false by simpa using hm))
    (by kernel_rfl)
end Go.Proofs.YtllmhikoaklpbaaDoor
