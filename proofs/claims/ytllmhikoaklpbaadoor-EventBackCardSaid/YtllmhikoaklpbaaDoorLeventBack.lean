/- What is encoded is decoded as it was, and what is decoded has just those bytes. It narrows nothing: it holds for every input. -/
import Derived.Test.YtllmhikoaklpbaaDoorH
import Derived.Test.YtllmhikoaklpbaaDoorRows
import Derived.Test.YtllmhikoaklpbaaDoorVcF
import Derived.Lay
import Derived.Test.YtllmhikoaklpbaaDoorCards
import Derived.Test.YtllmhikoaklpbaaDoorTie
import Derived.SevenTiedAt
set_option linter.unusedVariables false
set_option linter.unusedSimpArgs false
set_option maxRecDepth 100000
namespace Go.Proofs.YtllmhikoaklpbaaDoor
open Go.Vc
open Go.ChangeShapes Go.WideShapes Go.ChangeAt Go.RowKit
theorem wlaw12_EventBack (x : DenL [tEvent, tBytes]) : Owes Tryd.prog (cfgOf Qlaw12_alive) (Llaw12_EventBack x.1 x.2) 4 (argVs [tEvent, tBytes] x) [] (sayTrue [tEvent, tBytes] x) = vclaw12_EventBack x.1 x.2 := by kernel_rfl
theorem qlaw12_EventBack : Pok 4 [tEvent, tBytes] (fun x => sayTrue [tEvent, tBytes] x) := by
  refine pk (L := fun x => Llaw12_EventBack x.1 x.2) (l := Qlaw12_alive) aQlaw12_alive (fun _ => rfl) ?_
  intro x hv hp
  have hs : ShortL [tEvent, tBytes] x := hp _ (by simp [sayTrue])
  rw [wlaw12_EventBack]
  exact oklaw12_EventBack x.1 x.2 hv.2.1
theorem own_ : ownKnob Tryd.prog.godebug = none := by kernel_rfl
theorem laid_ : laidOutB Tryd.prog = true := by kernel_rfl
theorem tys4 : tysB Tryd.prog Tryd.f4.params.toList [tEvent, tBytes] = true := by kernel_rfl
theorem spec4 : ∀ (H : Type) (ds : List (DataW H)), ds.length = List.length (α := Ty) [tEvent, tBytes] → Rows.eventBackSpec.fn H ds = { results := [.lit (.bool true)], args := ds } := by
  intro H ds h
  match ds, h with
  | [_, _], _ => rfl
theorem bool4 : Tryd.prog.underlying 4 = some .bool := by kernel_rfl
theorem globs : GlobsAre Tryd.prog Rows.eventBackRow.laid gl := by
  intro g t x h
  unfold gl at h
  by_cases h0 : g = 0
  · subst h0; cases (show some _ = some (⟨t, x⟩ : Sigma Ty.den) from h); exact ⟨"escheat/event.parts", Rows.laid_escheat_event_parts, ((Tryd.prog.globals[0]?).map (·.type)).getD 0, by unfold Rows.eventBackRow; simp, by kernel_rfl, by kernel_rfl, by kernel_rfl, by kernel_rfl⟩
  rw [show Nat.beq g 0 = false from by cases hb : Nat.beq g 0 with | true => exact absurd (Nat.eq_of_beq_eq_true hb) h0 | false => rfl] at h; cases h
theorem lifted4 (os : Os) (started : os.Started) (H : Type) (enc : TypeId × Value → H) :
    ReturnsInHanded {} Tryd.checked os 4 .any (fun w args => (Rows.eventBackSpec.pre enc Tryd.prog Tryd.f4 [] false w args ∧ laidMetH Tryd.prog Rows.eventBackRow.laid w) ∧ sizedMet enc Tryd.prog Tryd.f4 (OpenSpec.ofChange Rows.eventBackSpec) false w args) (Rows.eventBackSpec.post enc Tryd.prog Tryd.f4 false true false false) :=
  law_step_laid (C := Tryd.checked) (T := 4) (laid := Rows.eventBackRow.laid) (gl := gl) [tEvent, tBytes] own_ (by kernel_rfl) Tryd.func4 (by kernel_rfl) (by kernel_rfl) laid_ rfl tys4 (by kernel_rfl) bool4 spec4 qlaw12_EventBack (by kernel_rfl) globs os started H enc
    (ChangeSpec.witness_shaped (enc := enc) (C := Tryd.checked) (os := os) (X := fun w _ => laidMetH Tryd.prog Rows.eventBackRow.laid w) false (World.laidAll Tryd.prog os Rows.eventBackRow.laid) #[.agg #[.int .i64 0, .int .i64 0, .string ⟨#[]⟩, .string ⟨#[]⟩, .slice none 0 0, .slice none 0 0, .int .i64 0, .int .i64 0, .int .i64 0, .int .i64 0, .slice none 0 0], .slice none 0 0] 8 (World.laidAll_os _ _ _) (World.shaped_of_ZipB (by kernel_rfl) (by kernel_rfl)) (by kernel_rfl) (by kernel_rfl) (by kernel_rfl) (by rw [MakeChecks.laidMetH_plain _ _ _ (by kernel_rfl)]; exact laidMet_laidAll _ (by kernel_rfl) (by kernel_rfl)))
theorem eventBack_row : Rows.EventBackSaid :=
  OpenClaim.holds_of_wide 4 Tryd.f4 rfl rfl rfl rfl rfl rfl rfl ⟨rfl, rfl, rfl, rfl, rfl⟩ rfl rfl rfl rfl rfl (by kernel_rfl) Tryd.func4 (by kernel_rfl)
    (of_decide_eq_true (by kernel_rfl)) (by unfold Func.isWrapper; first | (rw [if_pos (by decide +kernel)]; kernel_rfl) | (rw [if_neg (by decide +kernel)]; exact ⟨rfl, rfl⟩))
    (fun os started H enc _ => lifted4 os started H enc)
theorem wants4 : (Tryd.f4.params.toList.all fun t => !Tryd.prog.wantsStandIn t) = true := by kernel_rfl
theorem eventBack_card : Rows.EventBackCardSaid :=
  Claim7.holds_tied_plain_at .later [] [.data, .data, .data, .data, .pinned, .pinned] true (true, "ce0b18a71e9b74cb6c0655e7ca977d598959b48ffc01a042c1122b7c3a3fcfe3") false
    eventBack_row (fun _ h => by cases h) (by kernel_rfl) (fun _ h => by cases h) eventBack_row_tie rfl ⟨rfl, rfl⟩ (by kernel_rfl) rfl
    (fun f fn hf hfn => by
      obtain rfl : f = 4 := Option.some.inj ((show Tryd.prog.funcNamed "escheat/escheatlaw12.EventBack" = some 4 by kernel_rfl).symm.trans hf) |>.symm
      obtain rfl : fn = Tryd.f4 := (Option.some.inj (Tryd.func4.symm.trans hfn)).symm
      refine ⟨by kernel_rfl, fun j t ht => ?_⟩
      have hm := List.all_eq_true.1 wants4 t (by rw [← Array.getElem?_toList] at ht; exact List.mem_of_getElem? ht)
      exact (show Tryd.prog.wantsStandIn t = false by simpa using hm))
    (by kernel_rfl)
end Go.Proofs.YtllmhikoaklpbaaDoor
