/- Whether any event may be, its bytes, any kind's parts, and whether two are the same, are the document's. It narrows nothing: it holds for every input. -/
import Derived.Test.YtllmhikoaklpbaaDoorH
import Derived.Test.YtllmhikoaklpbaaDoorRows
import Derived.Test.YtllmhikoaklpbaaDoorVcF
import Derived.Lay
import Derived.Test.YtllmhikoaklpbaaDoorCards
import Derived.Test.YtllmhikoaklpbaaDoorTie
import Derived.SevenTiedAt
set_option linter.unusedVariables false
set_option linter.unusedSimpArgs false
set_option maxRecDepth 100000
namespace Go.Proofs.YtllmhikoaklpbaaDoor
open Go.Vc
open Go.ChangeShapes Go.WideShapes Go.ChangeAt Go.RowKit
theorem wlaw12_EventAsks (x : DenL [tEvent, tEvent, .int .i64]) : Owes Tryd.prog (cfgOf Qlaw12_alive) (Llaw12_EventAsks x.1 x.2.1 x.2.2) 6 (argVs [tEvent, tEvent, .int .i64] x) [] (sayTrue [tEvent, tEvent, .int .i64] x) = vclaw12_EventAsks x.1 x.2.1 x.2.2 := by kernel_rfl
theorem qlaw12_EventAsks : Pok 6 [tEvent, tEvent, .int .i64] (fun x => sayTrue [tEvent, tEvent, .int .i64] x) := by
  refine pk (L := fun x => Llaw12_EventAsks x.1 x.2.1 x.2.2) (l := Qlaw12_alive) aQlaw12_alive (fun _ => rfl) ?_
  intro x hv hp
  have hs : ShortL [tEvent, tEvent, .int .i64] x := hp _ (by simp [sayTrue])
  rw [wlaw12_EventAsks]
  exact oklaw12_EventAsks x.1 x.2.1 x.2.2
theorem own_ : ownKnob Tryd.prog.godebug = none := by kernel_rfl
theorem laid_ : laidOutB Tryd.prog = true := by kernel_rfl
theorem tys6 : tysB Tryd.prog Tryd.f6.params.toList [tEvent, tEvent, .int .i64] = true := by kernel_rfl
theorem spec6 : ∀ (H : Type) (ds : List (DataW H)), ds.length = List.length (α := Ty) [tEvent, tEvent, .int .i64] → Rows.eventAsksSpec.fn H ds = { results := [.lit (.bool true)], args := ds } := by
  intro H ds h
  match ds, h with
  | [_, _, _], _ => rfl
theorem bool4 : Tryd.prog.underlying 4 = some .bool := by kernel_rfl
theorem globs : GlobsAre Tryd.prog Rows.eventAsksRow.laid gl := by
  intro g t x h
  unfold gl at h
  by_cases h0 : g = 0
  · subst h0; cases (show some _ = some (⟨t, x⟩ : Sigma Ty.den) from h); exact ⟨"escheat/event.parts", Rows.laid_escheat_event_parts, ((Tryd.prog.globals[0]?).map (·.type)).getD 0, by unfold Rows.eventAsksRow; simp, by kernel_rfl, by kernel_rfl, by kernel_rfl, by kernel_rfl⟩
  rw [show Nat.beq g 0 = false from by cases hb : Nat.beq g 0 with | true => exact absurd (Nat.eq_of_beq_eq_true hb) h0 | false => rfl] at h; cases h
theorem lifted6 (os : Os) (started : os.Started) (H : Type) (enc : TypeId × Value → H) :
    ReturnsInHanded {} Tryd.checked os 6 .any (fun w args => (Rows.eventAsksSpec.pre enc Tryd.prog Tryd.f6 [] false w args ∧ laidMetH Tryd.prog Rows.eventAsksRow.laid w) ∧ sizedMet enc Tryd.prog Tryd.f6 (OpenSpec.ofChange Rows.eventAsksSpec) false w args) (Rows.eventAsksSpec.post enc Tryd.prog Tryd.f6 false true false false) :=
  law_step_laid (C := Tryd.checked) (T := 4) (laid := Rows.eventAsksRow.laid) (gl := gl) [tEvent, tEvent, .int .i64] own_ (by kernel_rfl) Tryd.func6 (by kernel_rfl) (by kernel_rfl) laid_ rfl tys6 (by kernel_rfl) bool4 spec6 qlaw12_EventAsks (by kernel_rfl) globs os started H enc
    (ChangeSpec.witness_shaped (enc := enc) (C := Tryd.checked) (os := os) (X := fun w _ => laidMetH Tryd.prog Rows.eventAsksRow.laid w) false (World.laidAll Tryd.prog os Rows.eventAsksRow.laid) #[.agg #[.int .i64 0, .int .i64 0, .string ⟨#[]⟩, .string ⟨#[]⟩, .slice none 0 0, .slice none 0 0, .int .i64 0, .int .i64 0, .int .i64 0, .int .i64 0, .slice none 0 0], .agg #[.int .i64 0, .int .i64 0, .string ⟨#[]⟩, .string ⟨#[]⟩, .slice none 0 0, .slice none 0 0, .int .i64 0, .int .i64 0, .int .i64 0, .int .i64 0, .slice none 0 0], .int .i64 0] 8 (World.laidAll_os _ _ _) (World.shaped_of_ZipB (by kernel_rfl) (by kernel_rfl)) (by kernel_rfl) (by kernel_rfl) (by kernel_rfl) (by rw [MakeChecks.laidMetH_plain _ _ _ (by kernel_rfl)]; exact laidMet_laidAll _ (by kernel_rfl) (by kernel_rfl)))
theorem eventAsks_row : Rows.EventAsksSaid :=
  OpenClaim.holds_of_wide 6 Tryd.f6 rfl rfl rfl rfl rfl rfl rfl ⟨rfl, rfl, rfl, rfl, rfl⟩ rfl rfl rfl rfl rfl (by kernel_rfl) Tryd.func6 (by kernel_rfl)
    (of_decide_eq_true (by kernel_rfl)) (by unfold Func.isWrapper; first | (rw [if_pos (by decide +kernel)]; kernel_rfl) | (rw [if_neg (by decide +kernel)]; exact ⟨rfl, rfl⟩))
    (fun os started H enc _ => lifted6 os started H enc)
theorem wants6 : (Tryd.f6.params.toList.all fun t => !Tryd.prog.wantsStandIn t) = true := by kernel_rfl
theorem eventAsks_card : Rows.EventAsksCardSaid :=
  Claim7.holds_tied_plain_at .later [] [.data, .data, .data, .data, .pinned, .pinned] true (true, "ce0b18a71e9b74cb6c0655e7ca977d598959b48ffc01a042c1122b7c3a3fcfe3") false
    eventAsks_row (fun _ h => by cases h) (by kernel_rfl) (fun _ h => by cases h) eventAsks_row_tie rfl ⟨rfl, rfl⟩ (by kernel_rfl) rfl
    (fun f fn hf hfn => by
      obtain rfl : f = 6 := Option.some.inj ((show Tryd.prog.funcNamed "escheat/escheatlaw12.EventAsks" = some 6 by kernel_rfl).symm.trans hf) |>.symm
      obtain rfl : fn = Tryd.f6 := (Option.some.inj (Tryd.func6.symm.trans hfn)).symm
      refine ⟨by kernel_rfl, fun j t ht => ?_⟩
      have hm := List.all_eq_true.1 wants6 t (by rw [← Array.getElem?_toList] at ht; exact List.mem_of_getElem? ht)
      exact (show Tryd.prog.wantsStandIn t = false by simpa using hm))
    (by kernel_rfl)
end Go.Proofs.YtllmhikoaklpbaaDoor
