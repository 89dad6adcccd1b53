/- What functions of this seat compute, in plain Lean. -/
import Derived.Test.YtllmhikoaklpbaaDoorE
import Derived.Test.YtllmhikoaklpbaaDoorG
set_option linter.unusedVariables false
set_option linter.unusedSimpArgs false
set_option maxRecDepth 100000
namespace Go.Proofs.YtllmhikoaklpbaaDoor
open Go.Vc
def dlaw12_alive  : Done := ⟨[], .one (.bool true), [], []⟩
def slaw12_alive : Vc.Sum := .pure [] false fun _ => dlaw12_alive
def Llaw12_alive  : Nat → List V → Nat → Option Vc.Loop := noKeep
def Qlaw12_alive : List (Nat × Ent) := (7, .sum slaw12_alive) :: Qref12_Great
def dlaw12_EventReads (b : List Int) : Done := sayTrue [tBytes] b
def slaw12_EventReads : Vc.Sum := .pure [tBytes] false fun x => dlaw12_EventReads x
def Llaw12_EventReads (b : List Int) : Nat → List V → Nat → Option Vc.Loop := noKeep
def dlaw12_EventBack (e : Event) (b : List Int) : Done := sayTrue [tEvent, tBytes] (e, b)
def slaw12_EventBack : Vc.Sum := .pure [tEvent, tBytes] false fun x => dlaw12_EventBack x.1 x.2
def Llaw12_EventBack (e : Event) (b : List Int) : Nat → List V → Nat → Option Vc.Loop := noKeep
def dlaw12_EventEnds (e : Event) (cut : Int) (more : Int) : Done := sayTrue [tEvent, .int .u16, .int .u8] (e, cut, more)
def slaw12_EventEnds : Vc.Sum := .pure [tEvent, .int .u16, .int .u8] false fun x => dlaw12_EventEnds x.1 x.2.1 x.2.2
def Llaw12_EventEnds (e : Event) (cut : Int) (more : Int) : Nat → List V → Nat → Option Vc.Loop := noKeep
def dlaw12_EventAsks (a : Event) (b : Event) (kind : Int) : Done := sayTrue [tEvent, tEvent, .int .i64] (a, b, kind)
def slaw12_EventAsks : Vc.Sum := .pure [tEvent, tEvent, .int .i64] false fun x => dlaw12_EventAsks x.1 x.2.1 x.2.2
def Llaw12_EventAsks (a : Event) (b : Event) (kind : Int) : Nat → List V → Nat → Option Vc.Loop := noKeep
end Go.Proofs.YtllmhikoaklpbaaDoor

set_option maxRecDepth 100000
set_option linter.unusedVariables false
namespace Go.Proofs.YtllmhikoaklpbaaDoor
open Go.Vc
def vclaw12_alive : Prop := (0 : Nat) ≤ (1000000000000 : Nat) ∧ (0 : Nat) ≤ (1000000000000 : Nat) ∧ (U.encE ((13 : Int), (7 : Int), [], [], [], [], (0 : Int), (0 : Int), (0 : Int), (3 : Int), [])).1.length ≤ (1000000000 : Nat) ∧ ((bif bif decide ((U.encE ((13 : Int), (7 : Int), [], [], [], [], (0 : Int), (0 : Int), (0 : Int), (3 : Int), [])).2 = (0 : Int)) then decide ((U.decE (U.encE ((13 : Int),
 (7 : Int), [], [], [], [], (0 : Int), (0 : Int), (0 : Int), (3 : Int), [])).1).2 = (0 : Int)) else false then decide ((↑(U.encE ((13 : Int), (7 : Int), [], [], [], [], (0 : Int), (0 : Int), (0 : Int), (3 : Int), [])).1.length : Int) = (24 : Int)) else false) = true → (0 : Int) ≤ (7 : Int)) ∧ ((bif bif decide ((U.encE ((13 : Int), (7 : Int), [], [], [], [], (0 : Int), (0 : Int), (0 : Int), (3 :
 Int), [])).2 = (0 : Int)) then decide ((U.decE (U.encE ((13 : Int), (7 : Int), [], [], [], [], (0 : Int), (0 : Int), (0 : Int), (3 : Int), [])).1).2 = (0 : Int)) else false then decide ((↑(U.encE ((13 : Int), (7 : Int), [], [], [], [], (0 : Int), (0 : Int), (0 : Int), (3 : Int), [])).1.length : Int) = (24 : Int)) else false) = true → (7 : Int) < (↑(U.encE ((13 : Int), (7 : Int), [], [], [], [], (0
 : Int), (0 : Int), (0 : Int), (3 : Int), [])).1.length : Int)) ∧ ((bif bif bif decide ((U.encE ((13 : Int), (7 : Int), [], [], [], [], (0 : Int), (0 : Int), (0 : Int), (3 : Int), [])).2 = (0 : Int)) then decide ((U.decE (U.encE ((13 : Int), (7 : Int), [], [], [], [], (0 : Int), (0 : Int), (0 : Int), (3 : Int), [])).1).2 = (0 : Int)) else false then decide ((↑(U.encE ((13 : Int), (7 : Int), [], [],
 [], [], (0 : Int), (0 : Int), (0 : Int), (3 : Int), [])).1.length : Int) = (24 : Int)) else false then decide ((U.encE ((13 : Int), (7 : Int), [], [], [], [], (0 : Int), (0 : Int), (0 : Int), (3 : Int), [])).1.getD (7 : Nat) (0 : Int) = (13 : Int)) else false) = true → (0 : Int) ≤ (15 : Int)) ∧ ((bif bif bif decide ((U.encE ((13 : Int), (7 : Int), [], [], [], [], (0 : Int), (0 : Int), (0 : Int), (3
 : Int), [])).2 = (0 : Int)) then decide ((U.decE (U.encE ((13 : Int), (7 : Int), [], [], [], [], (0 : Int), (0 : Int), (0 : Int), (3 : Int), [])).1).2 = (0 : Int)) else false then decide ((↑(U.encE ((13 : Int), (7 : Int), [], [], [], [], (0 : Int), (0 : Int), (0 : Int), (3 : Int), [])).1.length : Int) = (24 : Int)) else false then decide ((U.encE ((13 : Int), (7 : Int), [], [], [], [], (0 : Int),
 (0 : Int), (0 : Int), (3 : Int), [])).1.getD (7 : Nat) (0 : Int) = (13 : Int)) else false) = true → (15 : Int) < (↑(U.encE ((13 : Int), (7 : Int), [], [], [], [], (0 : Int), (0 : Int), (0 : Int), (3 : Int), [])).1.length : Int)) ∧ ((bif bif bif bif decide ((U.encE ((13 : Int), (7 : Int), [], [], [], [], (0 : Int), (0 : Int), (0 : Int), (3 : Int), [])).2 = (0 : Int)) then decide ((U.decE (U.encE
 ((13 : Int), (7 : Int), [], [], [], [], (0 : Int), (0 : Int), (0 : Int), (3 : Int), [])).1).2 = (0 : Int)) else false then decide ((↑(U.encE ((13 : Int), (7 : Int), [], [], [], [], (0 : Int), (0 : Int), (0 : Int), (3 : Int), [])).1.length : Int) = (24 : Int)) else false then decide ((U.encE ((13 : Int), (7 : Int), [], [], [], [], (0 : Int), (0 : Int), (0 : Int), (3 : Int), [])).1.getD (7 : Nat) (0
 : Int) = (13 : Int)) else false then decide ((U.encE ((13 : Int), (7 : Int), [], [], [], [], (0 : Int), (0 : Int), (0 : Int), (3 : Int), [])).1.getD (15 : Nat) (0 : Int) = (7 : Int)) else false) = true → (0 : Int) ≤ (23 : Int)) ∧ ((bif bif bif bif decide ((U.encE ((13 : Int), (7 : Int), [], [], [], [], (0 : Int), (0 : Int), (0 : Int), (3 : Int), [])).2 = (0 : Int)) then decide ((U.decE (U.encE ((13
 : Int), (7 : Int), [], [], [], [], (0 : Int), (0 : Int), (0 : Int), (3 : Int), [])).1).2 = (0 : Int)) else false then decide ((↑(U.encE ((13 : Int), (7 : Int), [], [], [], [], (0 : Int), (0 : Int), (0 : Int), (3 : Int), [])).1.length : Int) = (24 : Int)) else false then decide ((U.encE ((13 : Int), (7 : Int), [], [], [], [], (0 : Int), (0 : Int), (0 : Int), (3 : Int), [])).1.getD (7 : Nat) (0 :
 Int) = (13 : Int)) else false then decide ((U.encE ((13 : Int), (7 : Int), [], [], [], [], (0 : Int), (0 : Int), (0 : Int), (3 : Int), [])).1.getD (15 : Nat) (0 : Int) = (7 : Int)) else false) = true → (23 : Int) < (↑(U.encE ((13 : Int), (7 : Int), [], [], [], [], (0 : Int), (0 : Int), (0 : Int), (3 : Int), [])).1.length : Int)) ∧ (bif bif bif bif bif bif decide ((U.encE ((13 : Int), (7 : Int), [],
 [], [], [], (0 : Int), (0 : Int), (0 : Int), (3 : Int), [])).2 = (0 : Int)) then decide ((U.decE (U.encE ((13 : Int), (7 : Int), [], [], [], [], (0 : Int), (0 : Int), (0 : Int), (3 : Int), [])).1).2 = (0 : Int)) else false then decide ((↑(U.encE ((13 : Int), (7 : Int), [], [], [], [], (0 : Int), (0 : Int), (0 : Int), (3 : Int), [])).1.length : Int) = (24 : Int)) else false then decide ((U.encE ((13
 : Int), (7 : Int), [], [], [], [], (0 : Int), (0 : Int), (0 : Int), (3 : Int), [])).1.getD (7 : Nat) (0 : Int) = (13 : Int)) else false then decide ((U.encE ((13 : Int), (7 : Int), [], [], [], [], (0 : Int), (0 : Int), (0 : Int), (3 : Int), [])).1.getD (15 : Nat) (0 : Int) = (7 : Int)) else false then decide ((U.encE ((13 : Int), (7 : Int), [], [], [], [], (0 : Int), (0 : Int), (0 : Int), (3 :
 Int), [])).1.getD (23 : Nat) (0 : Int) = (3 : Int)) else false then decide ((U.decE (U.encE ((13 : Int), (7 : Int), [], [], [], [], (0 : Int), (0 : Int), (0 : Int), (3 : Int), [])).1).1.2.2.2.2.2.2.2.2.2.1 = (3 : Int)) else false) = true ∧ True
def vclaw12_EventReads (b : List Int) : Prop := bif decide ((↑b.length : Int) > (6000 : Int)) then true = true ∧ True else b.length ≤ (1000000000 : Nat) ∧ b.length ≤ (1000000000 : Nat) ∧ (bif U.evSame (U.decE b).1 (U.decE b).1 then decide ((U.decE b).2 = (U.decE b).2) else false) = true ∧ True
def vclaw12_EventBack (e : Event) (b : List Int) : Prop := bif bif U.great e then true else decide ((↑b.length : Int) > (6000 : Int)) then true = true ∧ True else (U.eBox e).length ≤ (1000000000000 : Nat) ∧ (U.eTo e).length ≤ (1000000000000 : Nat) ∧ bif decide ((U.encE e).2 = (0 : Int)) then (U.encE e).1.length ≤ (1000000000 : Nat) ∧ bif bif (U.decE (U.encE e).1).2 != (0 : Int) then true else
 !U.evSame e (U.decE (U.encE e).1).1 then false = true ∧ True else b.length ≤ (1000000000 : Nat) ∧ bif (U.decE b).2 != (0 : Int) then (bif decide ((U.decE b).1.1 = (0 : Int)) then decide ((↑(U.decE b).1.2.2.2.2.2.2.2.2.2.2.length : Int) = (0 : Int)) else false) = true ∧ True else (U.eBox (U.decE b).1).length ≤ (1000000000000 : Nat) ∧ (U.eTo (U.decE b).1).length ≤ (1000000000000 : Nat) ∧ (bif decide
 ((U.encE (U.decE b).1).2 = (0 : Int)) then decide ((U.encE (U.decE b).1).1 = b) else false) = true ∧ True else b.length ≤ (1000000000 : Nat) ∧ bif (U.decE b).2 != (0 : Int) then (bif decide ((U.decE b).1.1 = (0 : Int)) then decide ((↑(U.decE b).1.2.2.2.2.2.2.2.2.2.2.length : Int) = (0 : Int)) else false) = true ∧ True else (U.eBox (U.decE b).1).length ≤ (1000000000000 : Nat) ∧ (U.eTo (U.decE
 b).1).length ≤ (1000000000000 : Nat) ∧ (bif decide ((U.encE (U.decE b).1).2 = (0 : Int)) then decide ((U.encE (U.decE b).1).1 = b) else false) = true ∧ True
def vclaw12_EventEnds (e : Event) (cut : Int) (more : Int) : Prop := bif U.great e then true = true ∧ True else (U.eBox e).length ≤ (1000000000000 : Nat) ∧ (U.eTo e).length ≤ (1000000000000 : Nat) ∧ bif (U.encE e).2 != (0 : Int) then decide ((↑(U.encE e).1.length : Int) = (0 : Int)) = true ∧ True else bif decide ((↑(U.encE e).1.length : Int) = (0 : Int)) then false = true ∧ True else (↑(U.encE
 e).1.length : Int) ≠ (0 : Int) ∧ (0 : Int) ≤ (0 : Int) ∧ (0 : Int) ≤ (IntKind.i64.wrap cut).tmod (↑(U.encE e).1.length : Int) ∧ (IntKind.i64.wrap cut).tmod (↑(U.encE e).1.length : Int) ≤ (↑(U.encE e).1.length : Int) ∧ (List.take (((IntKind.i64.wrap cut).tmod (↑(U.encE e).1.length : Int)).toNat.sub (0 : Nat)) (List.drop (0 : Nat) (U.encE e).1)).length ≤ (1000000000 : Nat) ∧ (Nat.add (0 : Nat)
 (U.encE e).1.length).mul (1 : Nat) ≤ (140737488355328 : Nat) ∧ Nat.add (0 : Nat) (U.encE e).1.length ≤ maxLen ∧ ((U.encE e).1.length.add ((1 : Nat))).mul (1 : Nat) ≤ (140737488355328 : Nat) ∧ (U.encE e).1.length.add ((1 : Nat)) ≤ maxLen ∧ ((U.encE e).1.append ([(0 : Int)].set (0 : Nat) more)).length ≤ (1000000000 : Nat) ∧ (bif decide ((U.decE (List.take (((IntKind.i64.wrap cut).tmod (↑(U.encE
 e).1.length : Int)).toNat.sub (0 : Nat)) (List.drop (0 : Nat) (U.encE e).1))).2 = (2 : Int)) then decide ((U.decE ((U.encE e).1.append ([(0 : Int)].set (0 : Nat) more))).2 = (3 : Int)) else false) = true ∧ True
def vclaw12_EventAsks (a : Event) (b : Event) (kind : Int) : Prop := bif bif U.great a then true else U.great b then true = true ∧ True else (U.eBox a).length ≤ (1000000000000 : Nat) ∧ (U.eTo a).length ≤ (1000000000000 : Nat) ∧ (U.eBox a).length ≤ (1000000000000 : Nat) ∧ (U.eTo a).length ≤ (1000000000000 : Nat) ∧ ((bif decide ((U.encE a).1 = (U.encE a).1) then decide ((U.encE a).2 = (U.encE a).2)
 else false) = true → (U.eBox a).length ≤ (1000000000000 : Nat)) ∧ ((bif decide ((U.encE a).1 = (U.encE a).1) then decide ((U.encE a).2 = (U.encE a).2) else false) = true → (U.eTo a).length ≤ (1000000000000 : Nat)) ∧ ((bif decide ((U.encE a).1 = (U.encE a).1) then decide ((U.encE a).2 = (U.encE a).2) else false) = true → (U.eBox a).length ≤ (1000000000000 : Nat)) ∧ ((bif decide ((U.encE a).1 =
 (U.encE a).1) then decide ((U.encE a).2 = (U.encE a).2) else false) = true → (U.eTo a).length ≤ (1000000000000 : Nat)) ∧ (bif bif bif bif bif decide ((U.encE a).1 = (U.encE a).1) then decide ((U.encE a).2 = (U.encE a).2) else false then decide (U.evRight a = U.evRight a) else false then (U.parts kind).beq (U.parts kind) else false then decide (U.evSame a b = U.evSame a b) else false then U.evSame a
 a else false) = true ∧ True
end Go.Proofs.YtllmhikoaklpbaaDoor

set_option linter.unusedSimpArgs false
set_option linter.unusedVariables false
set_option maxRecDepth 100000
namespace Go.Proofs.YtllmhikoaklpbaaDoor
open Go.Vc
open Go.Vc.T
theorem oklaw12_alive : vclaw12_alive := by unfold vclaw12_alive; decide +kernel
theorem same_refl (e : Event) : U.evSame e e = true := by unfold U.evSame; simp
theorem oklaw12_EventReads (b : List Int) : vclaw12_EventReads b := by
  unfold vclaw12_EventReads
  simp only [same_refl, decide_true, cond_true]
  rw [cond_prop]
  refine ⟨fun _ => ⟨trivial, trivial⟩, fun h => ?_⟩
  have h : ¬ (b.length : Int) > 6000 := of_decide_eq_false h
  exact ⟨by omega, by omega, trivial, trivial⟩
theorem great_no {e : Event} (h : U.great e = false) : (U.eBox e).length ≤ 500 ∧ (U.eTo e).length ≤ 500 := by
  unfold U.great at h
  simp only [Bool.or_eq_false_iff, decide_eq_false_iff_not] at h
  omega
theorem encB_len {e : Event} (h : U.evRight e = true) : (U.encB e).length ≤ 50000 := by rw [← encP_all]; exact encP_len h 9
theorem oklaw12_EventBack (e : Event) (b : List Int) (hv : ∀ z ∈ b, Valid (.int .u8) z) : vclaw12_EventBack e b := by
  unfold vclaw12_EventBack
  have hbb := byte_of_valid hv
  rw [cond_prop]
  refine ⟨fun _ => ⟨rfl, trivial⟩, fun h => ?_⟩
  have hg : U.great e = false := by revert h; cases U.great e <;> simp
  have hl : b.length ≤ 6000 := by
    rw [hg] at h
    have h : ¬ (b.length : Int) > 6000 := of_decide_eq_false h
    omega
  have hgn := great_no hg
  refine ⟨by omega, by omega, ?_⟩
  have rest : b.length ≤ 1000000000 ∧ (bif (U.decE b).snd != (0 : Int) then
      (bif decide ((U.decE b).fst.fst = (0 : Int)) then decide ((↑(U.decE b).fst.snd.snd.snd.snd.snd.snd.snd.snd.snd.snd.length : Int) = (0 : Int)) else false) = true ∧ True
    else (U.eBox (U.decE b).fst).length ≤ (1000000000000 : Nat) ∧ (U.eTo (U.decE b).fst).length ≤ (1000000000000 : Nat) ∧
      (bif decide ((U.encE (U.decE b).fst).snd = (0 : Int)) then decide ((U.encE (U.decE b).fst).fst = b) else false) = true ∧ True) := by
    refine ⟨by omega, ?_⟩
    rw [cond_prop]
    refine ⟨fun hz => ?_, fun hz => ?_⟩
    · have hz : (U.decE b).2 ≠ 0 := bne_iff_ne.1 hz
      rw [(dec_none hz).1]; exact ⟨rfl, trivial⟩
    · have hz : (U.decE b).2 = 0 := by revert hz; simp
      obtain ⟨h1, h2⟩ := enc_dec (e := (U.decE b).1) hbb (Prod.ext rfl hz)
      rw [enc_of h1, h2]
      have hd : (U.decE b).1 = (U.dec1 b).2 := by
        unfold U.decE at hz ⊢
        by_cases hf : U.decF b = 0
        · rw [decide_eq_true hf]; rfl
        · rw [decide_eq_false hf] at hz; exact absurd hz hf
      have hX : okX b.length (U.dec1 b) := okX_fold _ (okX_dec0 hbb)
      have hX1 := hX.2.2
      rw [← hd] at hX1
      refine ⟨by omega, by omega, ?_, trivial⟩
      simp
  rw [cond_prop]
  refine ⟨fun hz => ?_, fun _ => rest⟩
  cases hr : U.evRight e with
  | false => rw [enc_no hr] at hz; cases hz
  | true =>
    have hle := encB_len hr
    rw [enc_of hr]
    simp only []
    rw [dec_enc hr, same_refl]
    exact ⟨by omega, rest⟩
theorem oklaw12_EventEnds (e : Event) (cut more : Int) (hv : Valid (.int .u16) cut) : vclaw12_EventEnds e cut more := by
  unfold vclaw12_EventEnds
  rw [cond_prop]
  refine ⟨fun _ => ⟨rfl, trivial⟩, fun h => ?_⟩
  have hgn := great_no h
  refine ⟨by omega, by omega, ?_⟩
  cases hr : U.evRight e with
  | false => rw [enc_no hr]; exact ⟨rfl, trivial⟩
  | true =>
    have hle := encB_len hr
    rw [enc_of hr]
    simp only [nat_sub, nat_add, nat_mul, list_append]
    have hpos : 0 < (U.encB e).length := by
      rw [encB_eq, List.length_append, num1_len]; omega
    rw [show ((0 : Int) != 0) = false from rfl, decide_eq_false (show ¬ ((U.encB e).length : Int) = 0 by omega)]
    simp only [cond_false]
    have hc : 0 ≤ cut ∧ cut ≤ 65535 := by
      simpa [Valid, IntKind.min, IntKind.max, IntKind.signed, IntKind.bits] using hv
    rw [wrap_i (x := cut) (by omega) (by omega)]
    have hm0 : 0 ≤ cut.tmod ((U.encB e).length : Int) := Int.tmod_nonneg _ hc.1
    have hm1 : cut.tmod ((U.encB e).length : Int) < (U.encB e).length := Int.tmod_lt_of_pos _ (by omega)
    have hk : (cut.tmod ((U.encB e).length : Int)).toNat < (U.encB e).length := by omega
    have d1 : (U.decE ((U.encB e).take (cut.tmod ((U.encB e).length : Int)).toNat)).2 = 2 := by
      have h2 := dec_cut hr hk
      have : U.decE ((U.encB e).take (cut.tmod ((U.encB e).length : Int)).toNat) = (U.zeroE, 2) := by unfold U.decE; rw [h2]; rfl
      rw [this]
    have d2 : (U.decE (U.encB e ++ [more])).2 = 3 := by
      have h2 := dec_more hr more
      have : U.decE (U.encB e ++ [more]) = (U.zeroE, 3) := by unfold U.decE; rw [h2]; rfl
      rw [this]
    refine ⟨by omega, by omega, hm0, by omega, ?_, by omega, by rw [maxLen_eq]; omega, by omega, by rw [maxLen_eq]; omega, ?_, ?_, trivial⟩
    · rw [List.length_take, List.length_drop]; omega
    · rw [List.length_append]; show _ + 1 ≤ _; omega
    · show (bif decide ((U.decE ((U.encB e).take (cut.tmod ((U.encB e).length : Int)).toNat)).2 = 2) then decide ((U.decE (U.encB e ++ [more])).2 = 3) else false) = true
      rw [decide_eq_true d1, decide_eq_true d2]; rfl
theorem oklaw12_EventAsks (a b : Event) (kind : Int) : vclaw12_EventAsks a b kind := by
  unfold vclaw12_EventAsks
  have hb : (U.parts kind).beq (U.parts kind) = true := beq_self_eq_true (U.parts kind)
  rw [cond_prop]
  refine ⟨fun _ => ⟨rfl, trivial⟩, fun h => ?_⟩
  have hg : U.great a = false := by revert h; cases U.great a <;> simp
  have hgn := great_no hg
  simp only [same_refl, decide_true, cond_true, hb]
  exact ⟨by omega, by omega, by omega, by omega, fun _ => by omega, fun _ => by omega, fun _ => by omega, fun _ => by omega, trivial, trivial⟩
end Go.Proofs.YtllmhikoaklpbaaDoor

set_option linter.unusedSimpArgs false
set_option maxRecDepth 100000
set_option linter.unusedVariables false
namespace Go.Proofs.YtllmhikoaklpbaaDoor
open Go.Vc
theorem wlaw12_alive (x : DenL []) : Owes Tryd.prog (cfgOf Qref12_Great) (Llaw12_alive ) 7 (argVs [] x) [] (dlaw12_alive ) = vclaw12_alive  := by kernel_rfl
theorem qlaw12_alive : Pok 7 [] (fun x => dlaw12_alive ) := by
  refine pk (L := fun x => Llaw12_alive ) (l := Qref12_Great) aQref12_Great (fun _ => rfl) ?_
  intro x hv hp
  rw [wlaw12_alive]
  exact oklaw12_alive
theorem plaw12_alive : SumOk Tryd.prog gl 7 slaw12_alive := qlaw12_alive
theorem aQlaw12_alive : AllOk Qlaw12_alive := .cons plaw12_alive aQref12_Great
end Go.Proofs.YtllmhikoaklpbaaDoor
