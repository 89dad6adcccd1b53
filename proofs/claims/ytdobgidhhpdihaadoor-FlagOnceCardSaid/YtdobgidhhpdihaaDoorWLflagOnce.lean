/- What is done twice is done once; names in other letters are the same. It narrows nothing: it holds for every input. -/
import Derived.Test.YtdobgidhhpdihaaDoorWO
import Derived.Test.YtdobgidhhpdihaaDoorRows
import Derived.Test.YtdobgidhhpdihaaDoorWVcF
import Derived.Lay
import Derived.Test.YtdobgidhhpdihaaDoorCards
import Derived.Test.YtdobgidhhpdihaaDoorTie
import Derived.SevenTiedAt
set_option linter.unusedVariables false
set_option linter.unusedSimpArgs false
set_option maxRecDepth 100000
namespace Go.Proofs.YtdobgidhhpdihaaDoor
open Go.Vc
open Go.ChangeShapes Go.WideShapes Go.ChangeAt Go.RowKit
theorem CQ (x : aX [.arr 3 (.int .u8), .str]) : mJ Tryd.prog (iT ru) (rY x.1 x.2) 3 (jF [.arr 3 (.int .u8), .str] x) [] (uy [.arr 3 (.int .u8), .str] x) = lD x.1 x.2 := by kernel_rfl
theorem CS : Pok 3 [.arr 3 (.int .u8), .str] (fun x => uy [.arr 3 (.int .u8), .str] x) := by
 refine pk (L := fun x => rY x.1 x.2) (l := ru) EO (fun _ => rfl) ?_
 intro x hv hp
 have hs : CG [.arr 3 (.int .u8), .str] x := hp _ (by simp [uy])
 rw [CQ]
 exact Aw x.1 x.2 hv
theorem PY : ownKnob Tryd.prog.godebug = none := by kernel_rfl
theorem Px : laidOutB Tryd.prog = true := by kernel_rfl
theorem PZ : G8 Tryd.prog Tryd.f3.params.toList [.arr 3 (.int .u8), .str] = true := by kernel_rfl
theorem spec3 : ∀ (H : Type) (ds : List (DataW H)), ds.length = List.length (α := Ty) [.arr 3 (.int .u8), .str] -> Rows.flagOnceSpec.fn H ds = { results := [.lit (.bool true)], args := ds } := by
 intro H ds h
 match ds, h with
 | [_, _], _ => rfl
theorem Py : Tryd.prog.underlying 4 = some .bool := by kernel_rfl
theorem globs : Ap Tryd.prog Rows.flagOnceRow.laid gl := by
 intro g t x h
 unfold gl at h
 by_cases h0 : g = 0
 ·subst h0; cases (show some _ = some (⟨t, x⟩ : Sigma Ty.den) from h); exact ⟨"escheat/flag.named", Rows.laid_escheat_flag_named, ((Tryd.prog.globals[0]?).map (·.type)).getD 0, by unfold Rows.flagOnceRow; simp, by kernel_rfl, by kernel_rfl, by kernel_rfl, by kernel_rfl⟩
 by_cases h1 : g = 1
 ·subst h1; cases (show some _ = some (⟨t, x⟩ : Sigma Ty.den) from h); exact ⟨"unicode.asciiFold", Rows.laid_unicode_asciiFold, ((Tryd.prog.globals[1]?).map (·.type)).getD 0, by unfold Rows.flagOnceRow; simp, by kernel_rfl, by kernel_rfl, by kernel_rfl, by kernel_rfl⟩
 by_cases h2 : g = 2
 ·subst h2; cases (show some _ = some (⟨t, x⟩ : Sigma Ty.den) from h); exact ⟨"unicode.caseOrbit", Rows.laid_unicode_caseOrbit, ((Tryd.prog.globals[2]?).map (·.type)).getD 0, by unfold Rows.flagOnceRow; simp, by kernel_rfl, by kernel_rfl, by kernel_rfl, by kernel_rfl⟩
 by_cases h4 : g = 4
 ·subst h4; cases (show some _ = some (⟨t, x⟩ : Sigma Ty.den) from h); exact ⟨"unicode/utf8.first", Rows.laid_unicode_utf8_first, ((Tryd.prog.globals[4]?).map (·.type)).getD 0, by unfold Rows.flagOnceRow; simp, by kernel_rfl, by kernel_rfl, by kernel_rfl, by kernel_rfl⟩
 by_cases h5 : g = 5
 ·subst h5; cases (show some _ = some (⟨t, x⟩ : Sigma Ty.den) from h); exact ⟨"unicode/utf8.acceptRanges", Rows.laid_unicode_utf8_acceptRanges, ((Tryd.prog.globals[5]?).map (·.type)).getD 0, by unfold Rows.flagOnceRow; simp, by kernel_rfl, by kernel_rfl, by kernel_rfl, by kernel_rfl⟩
 rw [show Nat.beq g 0 = false from by cases hb : Nat.beq g 0 with | true => exact absurd (Nat.eq_of_beq_eq_true hb) h0 | false => rfl, show Nat.beq g 1 = false from by cases hb : Nat.beq g 1 with | true => exact absurd (Nat.eq_of_beq_eq_true hb) h1 | false => rfl, show Nat.beq g 2 = false from by cases hb : Nat.beq g 2 with | true => exact absurd (Nat.eq_of_beq_eq_true hb) h2 | false => rfl, show Nat.beq g 4 = false from by cases hb : Nat.beq g 4 with | true => exact absurd (Nat.eq_of_beq_eq_true hb) h4 | false => rfl, show Nat.beq g 5 = false from by cases hb : Nat.beq g 5 with | true => exact absurd (Nat.eq_of_beq_eq_true hb) h5 | false => rfl] at h; cases h
theorem lifted3 (os : Os) (started : os.Started) (H : Type) (enc : TypeId × Value -> H) :
 ReturnsInHanded {} Tryd.checked os 3 .any (fun w args => (Rows.flagOnceSpec.pre enc Tryd.prog Tryd.f3 [] false w args /\ laidMetH Tryd.prog Rows.flagOnceRow.laid w) /\ sizedMet enc Tryd.prog Tryd.f3 (OpenSpec.ofChange Rows.flagOnceSpec) false w args) (Rows.flagOnceSpec.post enc Tryd.prog Tryd.f3 false true false false) :=
 EL (C := Tryd.checked) (T := 4) (laid := Rows.flagOnceRow.laid) (gl := gl) [.arr 3 (.int .u8), .str] PY (by kernel_rfl) Tryd.func3 (by kernel_rfl) (by kernel_rfl) Px rfl PZ (by kernel_rfl) Py spec3 CS (by kernel_rfl) globs os started H enc
  (ChangeSpec.witness_shaped (enc := enc) (C := Tryd.checked) (os := os) (X := fun w _ => laidMetH Tryd.prog Rows.flagOnceRow.laid w) false (World.laidAll Tryd.prog os Rows.flagOnceRow.laid) #[.agg #[.int .u8 0, .int .u8 0, .int .u8 0], .string ⟨#[]⟩] 8 (World.laidAll_os _ _ _) (World.shaped_of_ZipB (by kernel_rfl) (by kernel_rfl)) (by kernel_rfl) (by kernel_rfl) (by kernel_rfl) (by rw [MakeChecks.laidMetH_plain _ _ _ (by kernel_rfl)]; exact laidMet_laidAll _ (by kernel_rfl) (by kernel_rfl)))
theorem H6 : Rows.FlagOnceSaid :=
 OpenClaim.holds_of_wide 3 Tryd.f3 rfl rfl rfl rfl rfl rfl rfl ⟨rfl, rfl, rfl, rfl, rfl⟩ rfl rfl rfl rfl rfl (by kernel_rfl) Tryd.func3 (by kernel_rfl)
  (of_decide_eq_true (by kernel_rfl)) (by unfold Func.isWrapper; first | (rw [if_pos (by decide +kernel)]; kernel_rfl) | (rw [if_neg (by decide +kernel)]; exact ⟨rfl, rfl⟩))
  (fun os started H enc _ => lifted3 os started H enc)
theorem OZ : (Tryd.f3.params.toList.all fun t => !Tryd.prog.wantsStandIn t) = true := by kernel_rfl
theorem flagOnce_card : Rows.FlagOnceCardSaid :=
 Claim7.holds_tied_plain_at .later [] [.data, .data, .data, .data, .pinned, .pinned] true (true, "b777a2ac1c3d8abfddc602a0fea8972877cfb8d3be3ce6eeb3ad9c264d6195ef") false
  H6 (fun _ h => by cases h) (by kernel_rfl) (fun _ h => by cases h) flagOnce_row_tie rfl ⟨rfl, rfl⟩ (by kernel_rfl) rfl
  (fun f fn hf hfn => by
    obtain rfl : f = 3 := Option.some.inj ((show Tryd.prog.funcNamed "escheat/escheatlaw08.FlagOnce" = some 3 by kernel_rfl).symm.trans hf) |>.symm
    obtain rfl : fn = Tryd.f3 := (Option.some.inj (Tryd.func3.symm.trans hfn)).symm
    refine ⟨by kernel_rfl, fun j t ht => ?_⟩
    have hm := List.all_eq_true.1 OZ t (by rw [<- Array.getElem?_toList] at ht; exact List.mem_of_getElem? ht)
    exact (show Tryd.prog.wantsStandIn t = false by simpa using hm))
  (by kernel_rfl)
end Go.Proofs.YtdobgidhhpdihaaDoor
