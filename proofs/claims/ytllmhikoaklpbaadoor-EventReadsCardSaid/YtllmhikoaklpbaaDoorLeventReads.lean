/- Any bytes are the document's event, or refused, for its reason. It narrows nothing: it holds for every input. -/
import Derived.Test.YtllmhikoaklpbaaDoorH
import Derived.Test.YtllmhikoaklpbaaDoorRows
import Derived.Test.YtllmhikoaklpbaaDoorVcF
import Derived.Lay
import Derived.Test.YtllmhikoaklpbaaDoorCards
import Derived.Test.YtllmhikoaklpbaaDoorTie
import Derived.SevenTiedAt
set_option linter.unusedVariables false
set_option linter.unusedSimpArgs false
set_option maxRecDepth 100000
namespace Go.Proofs.YtllmhikoaklpbaaDoor
open Go.Vc
open Go.ChangeShapes Go.WideShapes Go.ChangeAt Go.RowKit
theorem wlaw12_EventReads (x : DenL [tBytes]) : Owes Tryd.prog (cfgOf Qlaw12_alive) (Llaw12_EventReads x) 3 (argVs [tBytes] x) [] (sayTrue [tBytes] x) = vclaw12_EventReads x := by kernel_rfl
theorem qlaw12_EventReads : Pok 3 [tBytes] (fun x => sayTrue [tBytes] x) := by
  refine pk (L := fun x => Llaw12_EventReads x) (l := Qlaw12_alive) aQlaw12_alive (fun _ => rfl) ?_
  intro x hv hp
  have hs : ShortL [tBytes] x := hp _ (by simp [sayTrue])
  rw [wlaw12_EventReads]
  exact oklaw12_EventReads x
theorem own_ : ownKnob Tryd.prog.godebug = none := by kernel_rfl
theorem laid_ : laidOutB Tryd.prog = true := by kernel_rfl
theorem tys3 : tysB Tryd.prog Tryd.f3.params.toList [tBytes] = true := by kernel_rfl
theorem spec3 : ∀ (H : Type) (ds : List (DataW H)), ds.length = List.length (α := Ty) [tBytes] → Rows.eventReadsSpec.fn H ds = { results := [.lit (.bool true)], args := ds } := by
  intro H ds h
  match ds, h with
  | [_], _ => rfl
theorem bool4 : Tryd.prog.underlying 4 = some .bool := by kernel_rfl
theorem globs : GlobsAre Tryd.prog Rows.eventReadsRow.laid gl := by
  intro g t x h
  unfold gl at h
  by_cases h0 : g = 0
  · subst h0; cases (show some _ = some (⟨t, x⟩ : Sigma Ty.den) from h); exact ⟨"escheat/event.parts", Rows.laid_escheat_event_parts, ((Tryd.prog.globals[0]?).map (·.type)).getD 0, by unfold Rows.eventReadsRow; simp, by kernel_rfl, by kernel_rfl, by kernel_rfl, by kernel_rfl⟩
  rw [show Nat.beq g 0 = false from by cases hb : Nat.beq g 0 with | true => exact absurd (Nat.eq_of_beq_eq_true hb) h0 | false => rfl] at h; cases h
theorem lifted3 (os : Os) (started : os.Started) (H : Type) (enc : TypeId × Value → H) :
    ReturnsInHanded {} Tryd.checked os 3 .any (fun w args => (Rows.eventReadsSpec.pre enc Tryd.prog Tryd.f3 [] false w args ∧ laidMetH Tryd.prog Rows.eventReadsRow.laid w) ∧ sizedMet enc Tryd.prog Tryd.f3 (OpenSpec.ofChange Rows.eventReadsSpec) false w args) (Rows.eventReadsSpec.post enc Tryd.prog Tryd.f3 false true false false) :=
  law_step_laid (C := Tryd.checked) (T := 4) (laid := Rows.eventReadsRow.laid) (gl := gl) [tBytes] own_ (by kernel_rfl) Tryd.func3 (by kernel_rfl) (by kernel_rfl) laid_ rfl tys3 (by kernel_rfl) bool4 spec3 qlaw12_EventReads (by kernel_rfl) globs os started H enc
    (ChangeSpec.witness_shaped (enc := enc) (C := Tryd.checked) (os := os) (X := fun w _ => laidMetH Tryd.prog Rows.eventReadsRow.laid w) false (World.laidAll Tryd.prog os Rows.eventReadsRow.laid) #[.slice none 0 0] 8 (World.laidAll_os _ _ _) (World.shaped_of_ZipB (by kernel_rfl) (by kernel_rfl)) (by kernel_rfl) (by kernel_rfl) (by kernel_rfl) (by rw [MakeChecks.laidMetH_plain _ _ _ (by kernel_rfl)]; exact laidMet_laidAll _ (by kernel_rfl) (by kernel_rfl)))
theorem eventReads_row : Rows.EventReadsSaid :=
  OpenClaim.holds_of_wide 3 Tryd.f3 rfl rfl rfl rfl rfl rfl rfl ⟨rfl, rfl, rfl, rfl, rfl⟩ rfl rfl rfl rfl rfl (by kernel_rfl) Tryd.func3 (by kernel_rfl)
    (of_decide_eq_true (by kernel_rfl)) (by unfold Func.isWrapper; first | (rw [if_pos (by decide +kernel)]; kernel_rfl) | (rw [if_neg (by decide +kernel)]; exact ⟨rfl, rfl⟩))
    (fun os started H enc _ => lifted3 os started H enc)
theorem wants3 : (Tryd.f3.params.toList.all fun t => !Tryd.prog.wantsStandIn t) = true := by kernel_rfl
theorem eventReads_card : Rows.EventReadsCardSaid :=
  Claim7.holds_tied_plain_at .later [] [.data, .data, .data, .data, .pinned, .pinned] true (true, "ce0b18a71e9b74cb6c0655e7ca977d598959b48ffc01a042c1122b7c3a3fcfe3") false
    eventReads_row (fun _ h => by cases h) (by kernel_rfl) (fun _ h => by cases h) eventReads_row_tie rfl ⟨rfl, rfl⟩ (by kernel_rfl) rfl
    (fun f fn hf hfn => by
      obtain rfl : f = 3 := Option.some.inj ((show Tryd.prog.funcNamed "escheat/escheatlaw12.EventReads" = some 3 by kernel_rfl).symm.trans hf) |>.symm
      obtain rfl : fn = Tryd.f3 := (Option.some.inj (Tryd.func3.symm.trans hfn)).symm
      refine ⟨by kernel_rfl, fun j t ht => ?_⟩
      have hm := List.all_eq_true.1 wants3 t (by rw [← Array.getElem?_toList] at ht; exact List.mem_of_getElem? ht)
      exact (show Tryd.prog.wantsStandIn t = false by simpa using hm))
    (by kernel_rfl)
end Go.Proofs.YtllmhikoaklpbaaDoor
