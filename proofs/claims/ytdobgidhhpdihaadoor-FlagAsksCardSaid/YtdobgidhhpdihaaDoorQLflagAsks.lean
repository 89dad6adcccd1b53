/- Any flags are told, and any names read, and any flags changed, as the document says, or refused. It narrows nothing: it holds for every input. -/
import Derived.Test.YtdobgidhhpdihaaDoorQO
import Derived.Test.YtdobgidhhpdihaaDoorRows
import Derived.Test.YtdobgidhhpdihaaDoorQVcF
import Derived.Lay
import Derived.Test.YtdobgidhhpdihaaDoorCards
import Derived.Test.YtdobgidhhpdihaaDoorTie
import Derived.SevenTiedAt
set_option linter.unusedVariables false
set_option linter.unusedSimpArgs false
set_option maxRecDepth 100000
namespace Go.Proofs.YtdobgidhhpdihaaDoor
open Go.Vc
open Go.ChangeShapes Go.WideShapes Go.ChangeAt Go.RowKit
theorem EL (x : aS [.int .i64, je, .arr 3 (.int .i64)]) : iO Tryd.prog (dY tV) (uI x.1 x.2.1 x.2.2) 4 (fA [.int .i64, je, .arr 3 (.int .i64)] x) [] (vZ [.int .i64, je, .arr 3 (.int .i64)] x) = l7 x.1 x.2.1 x.2.2 := by kernel_rfl
theorem EM : Pok 4 [.int .i64, je, .arr 3 (.int .i64)] (fun x => vZ [.int .i64, je, .arr 3 (.int .i64)] x) := by
 refine pk (L := fun x => uI x.1 x.2.1 x.2.2) (l := tV) Hr (fun _ => rfl) ?_
 intro x hv hp
 have hs : EC [.int .i64, je, .arr 3 (.int .i64)] x := hp _ (by simp [vZ])
 rw [EL]
 exact Dj x.1 x.2.1 x.2.2 hv
theorem SI : ownKnob Tryd.prog.godebug = none := by kernel_rfl
theorem RX : laidOutB Tryd.prog = true := by kernel_rfl
theorem SK : JC Tryd.prog Tryd.f4.params.toList [.int .i64, je, .arr 3 (.int .i64)] = true := by kernel_rfl
theorem spec4 : ∀ (H : Type) (ds : List (DataW H)), ds.length = List.length (α := Ty) [.int .i64, je, .arr 3 (.int .i64)] -> Rows.flagAsksSpec.fn H ds = { results := [.lit (.bool true)], args := ds } := by
 intro H ds h
 match ds, h with
 | [_, _, _], _ => rfl
theorem RY : Tryd.prog.underlying 4 = some .bool := by kernel_rfl
theorem globs : Dc Tryd.prog Rows.flagAsksRow.laid gl := by
 intro g t x h
 unfold gl at h
 by_cases h0 : g = 0
 ·subst h0; cases (show some _ = some (⟨t, x⟩ : Sigma Ty.den) from h); exact ⟨"escheat/flag.named", Rows.laid_escheat_flag_named, ((Tryd.prog.globals[0]?).map (·.type)).getD 0, by unfold Rows.flagAsksRow; simp, by kernel_rfl, by kernel_rfl, by kernel_rfl, by kernel_rfl⟩
 by_cases h1 : g = 1
 ·subst h1; cases (show some _ = some (⟨t, x⟩ : Sigma Ty.den) from h); exact ⟨"unicode.asciiFold", Rows.laid_unicode_asciiFold, ((Tryd.prog.globals[1]?).map (·.type)).getD 0, by unfold Rows.flagAsksRow; simp, by kernel_rfl, by kernel_rfl, by kernel_rfl, by kernel_rfl⟩
 by_cases h2 : g = 2
 ·subst h2; cases (show some _ = some (⟨t, x⟩ : Sigma Ty.den) from h); exact ⟨"unicode.caseOrbit", Rows.laid_unicode_caseOrbit, ((Tryd.prog.globals[2]?).map (·.type)).getD 0, by unfold Rows.flagAsksRow; simp, by kernel_rfl, by kernel_rfl, by kernel_rfl, by kernel_rfl⟩
 by_cases h4 : g = 4
 ·subst h4; cases (show some _ = some (⟨t, x⟩ : Sigma Ty.den) from h); exact ⟨"unicode/utf8.first", Rows.laid_unicode_utf8_first, ((Tryd.prog.globals[4]?).map (·.type)).getD 0, by unfold Rows.flagAsksRow; simp, by kernel_rfl, by kernel_rfl, by kernel_rfl, by kernel_rfl⟩
 by_cases h5 : g = 5
 ·subst h5; cases (show some _ = some (⟨t, x⟩ : Sigma Ty.den) from h); exact ⟨"unicode/utf8.acceptRanges", Rows.laid_unicode_utf8_acceptRanges, ((Tryd.prog.globals[5]?).map (·.type)).getD 0, by unfold Rows.flagAsksRow; simp, by kernel_rfl, by kernel_rfl, by kernel_rfl, by kernel_rfl⟩
 rw [show Nat.beq g 0 = false from by cases hb : Nat.beq g 0 with | true => exact absurd (Nat.eq_of_beq_eq_true hb) h0 | false => rfl, show Nat.beq g 1 = false from by cases hb : Nat.beq g 1 with | true => exact absurd (Nat.eq_of_beq_eq_true hb) h1 | false => rfl, show Nat.beq g 2 = false from by cases hb : Nat.beq g 2 with | true => exact absurd (Nat.eq_of_beq_eq_true hb) h2 | false => rfl, show Nat.beq g 4 = false from by cases hb : Nat.beq g 4 with | true => exact absurd (Nat.eq_of_beq_eq_true hb) h4 | false => rfl, show Nat.beq g 5 = false from by cases hb : Nat.beq g 5 with | true => exact absurd (Nat.eq_of_beq_eq_true hb) h5 | false => rfl] at h; cases h
theorem lifted4 (os : Os) (started : os.Started) (H : Type) (enc : TypeId × Value -> H) :
 ReturnsInHanded {} Tryd.checked os 4 .any (fun w args => (Rows.flagAsksSpec.pre enc Tryd.prog Tryd.f4 [] false w args /\ laidMetH Tryd.prog Rows.flagAsksRow.laid w) /\ sizedMet enc Tryd.prog Tryd.f4 (OpenSpec.ofChange Rows.flagAsksSpec) false w args) (Rows.flagAsksSpec.post enc Tryd.prog Tryd.f4 false true false false) :=
 G6 (C := Tryd.checked) (T := 4) (laid := Rows.flagAsksRow.laid) (gl := gl) [.int .i64, je, .arr 3 (.int .i64)] SI (by kernel_rfl) Tryd.func4 (by kernel_rfl) (by kernel_rfl) RX rfl SK (by kernel_rfl) RY spec4 EM (by kernel_rfl) globs os started H enc
  (ChangeSpec.witness_shaped (enc := enc) (C := Tryd.checked) (os := os) (X := fun w _ => laidMetH Tryd.prog Rows.flagAsksRow.laid w) false (World.laidAll Tryd.prog os Rows.flagAsksRow.laid) #[.int .i64 0, .slice none 0 0, .agg #[.int .i64 0, .int .i64 0, .int .i64 0]] 8 (World.laidAll_os _ _ _) (World.shaped_of_ZipB (by kernel_rfl) (by kernel_rfl)) (by kernel_rfl) (by kernel_rfl) (by kernel_rfl) (by rw [MakeChecks.laidMetH_plain _ _ _ (by kernel_rfl)]; exact laidMet_laidAll _ (by kernel_rfl) (by kernel_rfl)))
theorem Ky : Rows.FlagAsksSaid :=
 OpenClaim.holds_of_wide 4 Tryd.f4 rfl rfl rfl rfl rfl rfl rfl ⟨rfl, rfl, rfl, rfl, rfl⟩ rfl rfl rfl rfl rfl (by kernel_rfl) Tryd.func4 (by kernel_rfl)
  (of_decide_eq_true (by kernel_rfl)) (by unfold Func.isWrapper; first | (rw [if_pos (by decide +kernel)]; kernel_rfl) | (rw [if_neg (by decide +kernel)]; exact ⟨rfl, rfl⟩))
  (fun os started H enc _ => lifted4 os started H enc)
theorem Rt : (Tryd.f4.params.toList.all fun t => !Tryd.prog.wantsStandIn t) = true := by kernel_rfl
theorem flagAsks_card : Rows.FlagAsksCardSaid :=
 Claim7.holds_tied_plain_at .later [] [.data, .data, .data, .data, .pinned, .pinned] true (true, "b777a2ac1c3d8abfddc602a0fea8972877cfb8d3be3ce6eeb3ad9c264d6195ef") false
  Ky (fun _ h => by cases h) (by kernel_rfl) (fun _ h => by cases h) flagAsks_row_tie rfl ⟨rfl, rfl⟩ (by kernel_rfl) rfl
  (fun f fn hf hfn => by
    obtain rfl : f = 4 := Option.some.inj ((show Tryd.prog.funcNamed "escheat/escheatlaw08.FlagAsks" = some 4 by kernel_rfl).symm.trans hf) |>.symm
    obtain rfl : fn = Tryd.f4 := (Option.some.inj (Tryd.func4.symm.trans hfn)).symm
    refine ⟨by kernel_rfl, fun j t ht => ?_⟩
    have hm := List.all_eq_true.1 Rt t (by rw [<- Array.getElem?_toList] at ht; exact List.mem_of_getElem? ht)
    exact (show Tryd.prog.wantsStandIn t = false by simpa using hm))
  (by kernel_rfl)
end Go.Proofs.YtdobgidhhpdihaaDoor
