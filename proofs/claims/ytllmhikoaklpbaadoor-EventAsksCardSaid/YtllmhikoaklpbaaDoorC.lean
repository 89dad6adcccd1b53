/- What functions of this seat compute, in plain Lean. -/
import Derived.Test.YtllmhikoaklpbaaDoorB
set_option linter.unusedVariables false
set_option linter.unusedSimpArgs false
set_option maxRecDepth 100000
namespace Go.Proofs.YtllmhikoaklpbaaDoor
open Go.Vc
namespace U
def okS : Bool → List Int → Bool
  | p, [] => !p
  | p, x :: r => cond (decide (x = 47)) (!p && okS true r) (okS false r)
def prevS (s : List Int) (i : Int) : Bool := decide (i = 0) || decide (s.getD (i - 1).toNat 0 = 47)
def cnt47 (s : List Int) : Int := ((s.filter (fun x => decide (x = 47))).length : Int)
def rowM (p s : List Int) : List Bool := (List.range (s.length + 1)).map fun k => matchP p (s.take k)
end U
namespace U
def stref10_formed_5 (s : List Int) (n : Int) (i : Int) : St2 := ⟨⟨[sS s] ++ U.n 2 ++ [sI n] ++ [sI i] ++ U.n 51, [], []⟩, 0, []⟩
def Iref10_formed_5 (s : List Int)  (n : Int) (i : Int) : Prop := 1 ≤ s.length ∧ s.length ≤ 40 ∧ at_ s i ∧ (i = s.length → prevS s i = false) ∧ 1 ≤ n ∧ n ≤ i + 1 ∧ s.any oddB = (s.drop i.toNat).any oddB ∧ okS true s = okS (prevS s i) (s.drop i.toNat) ∧ 1 + cnt47 s = n + cnt47 (s.drop i.toNat)
def stref10_Clean_6 (s : List Int) (i : Int) : St2 := ⟨⟨[sS s] ++ U.n 3 ++ [sI i] ++ U.n 41, [], []⟩, 0, []⟩
def Iref10_Clean_6 (s : List Int)  (i : Int) : Prop := 5 ≤ s.length ∧ (s.length = 5 ∨ s.getD 5 0 = 47) ∧ 0 ≤ i ∧ i ≤ 5 ∧ (s.take i.toNat).map lowB = (inboxL.take i.toNat).map lowB
end U
def lpref10_formed_5 (s : List Int) : Vc.Loop := ⟨{ keep := [0, 3, 4] }, Int × Int, fun x => U.stref10_formed_5 s x.1 x.2, fun x0 x => U.Iref10_formed_5 s  x.1 x.2, fun x => s.length - x.2.toNat⟩
def lpref10_Clean_6 (s : List Int) : Vc.Loop := ⟨{ keep := [0, 4] }, Int, fun x => U.stref10_Clean_6 s x, fun x0 x => U.Iref10_Clean_6 s  x, fun x => 5 - x.toNat⟩
def dref10_plain (c : Int) : Done := rB (!(U.oddB c))
def sref10_plain : Vc.Sum := .pure [.int .u8] false fun x => dref10_plain x
def Lref10_plain (c : Int) : Nat → List V → Nat → Option Vc.Loop := noKeep
def Qref10_plain : List (Nat × Ent) := (76, .sum sref10_plain) :: Qname_Right
def dref10_formed (s : List Int) : Done := ⟨[s.length ≤ 1000000000000], .one (.bool (U.formedN s)), [], []⟩
def sref10_formed : Vc.Sum := .pure [.str] false fun x => dref10_formed x
def Lref10_formed (s : List Int) : Nat → List V → Nat → Option Vc.Loop := fun f v k => cond (Nat.beq f 71 && Nat.beq k 5) (some (lpref10_formed_5 s)) <| none
def Qref10_formed : List (Nat × Ent) := (71, .sum sref10_formed) :: Qref10_plain
def dref10_Clean (s : List Int) : Done := ⟨[s.length ≤ 1000000000000], rSE (U.cleanN s), [], []⟩
def sref10_Clean : Vc.Sum := .pure [.str] false fun x => dref10_Clean x
def Lref10_Clean (s : List Int) : Nat → List V → Nat → Option Vc.Loop := fun f v k => cond (Nat.beq f 63 && Nat.beq k 6) (some (lpref10_Clean_6 s)) <| none
def Qref10_Clean : List (Nat × Ent) := (63, .sum sref10_Clean) :: Qref10_formed
def dref10_Right (s : List Int) : Done := ⟨[s.length ≤ 1000000000000], .one (.bool (U.rightN s)), [], []⟩
def sref10_Right : Vc.Sum := .pure [.str] false fun x => dref10_Right x
def Lref10_Right (s : List Int) : Nat → List V → Nat → Option Vc.Loop := noKeep
def Qref10_Right : List (Nat × Ent) := (39, .sum sref10_Right) :: Qref10_Clean
end Go.Proofs.YtllmhikoaklpbaaDoor

set_option maxRecDepth 100000
set_option linter.unusedVariables false
namespace Go.Proofs.YtllmhikoaklpbaaDoor
open Go.Vc
def vcref10_plain (c : Int) : Prop := (bif bif bif bif bif bif bif bif decide (c > (32 : Int)) then decide (c ≤ (126 : Int)) else false then c != (40 : Int) else false then c != (41 : Int) else false then c != (123 : Int) else false then c != (37 : Int) else false then c != (42 : Int) else false then c != (34 : Int) else false then c != (92 : Int) else false) = !U.oddB c ∧ True
def vcref10_formed (s : List Int) : Prop := bif bif decide ((↑s.length : Int) < (1 : Int)) then true else decide ((↑s.length : Int) > (40 : Int)) then false = U.formedN s ∧ True else ∃ (x0 : Int × Int), (U.stref10_formed_5 s (1 : Int) (0 : Int) = U.stref10_formed_5 s x0.1 x0.2 ∧ U.Iref10_formed_5 s x0.1 x0.2) ∧ ∀ (x : Int × Int), U.Iref10_formed_5 s x.1 x.2 → bif decide (x.2 < (↑s.length : Int))
 then (0 : Int) ≤ x.2 ∧ x.2 < (↑s.length : Int) ∧ ((!!U.oddB (s.getD x.2.toNat (0 : Int))) = false → (0 : Int) ≤ x.2) ∧ ((!!U.oddB (s.getD x.2.toNat (0 : Int))) = false → x.2 < (↑s.length : Int)) ∧ ((!!U.oddB (s.getD x.2.toNat (0 : Int))) = false → decide (s.getD x.2.toNat (0 : Int) = (47 : Int)) = true → (bif decide (x.2 = (0 : Int)) then true else decide (x.2 = IntKind.i64.wrap ((↑s.length :
 Int).sub (1 : Int)))) = false → (0 : Int) ≤ IntKind.i64.wrap (x.2.sub (1 : Int))) ∧ ((!!U.oddB (s.getD x.2.toNat (0 : Int))) = false → decide (s.getD x.2.toNat (0 : Int) = (47 : Int)) = true → (bif decide (x.2 = (0 : Int)) then true else decide (x.2 = IntKind.i64.wrap ((↑s.length : Int).sub (1 : Int)))) = false → IntKind.i64.wrap (x.2.sub (1 : Int)) < (↑s.length : Int)) ∧ bif bif !!U.oddB (s.getD
 x.2.toNat (0 : Int)) then true else bif decide (s.getD x.2.toNat (0 : Int) = (47 : Int)) then bif bif decide (x.2 = (0 : Int)) then true else decide (x.2 = IntKind.i64.wrap ((↑s.length : Int).sub (1 : Int))) then true else decide (s.getD (IntKind.i64.wrap (x.2.sub (1 : Int))).toNat (0 : Int) = (47 : Int)) else false then false = U.formedN s ∧ True else (0 : Int) ≤ x.2 ∧ x.2 < (↑s.length : Int) ∧
 bif decide (s.getD x.2.toNat (0 : Int) = (47 : Int)) then ∃ (y : Int × Int), U.stref10_formed_5 s (IntKind.i64.wrap (x.1.add (1 : Int))) (IntKind.i64.wrap (x.2.add (1 : Int))) = U.stref10_formed_5 s y.1 y.2 ∧ U.Iref10_formed_5 s y.1 y.2 ∧ s.length.sub y.2.toNat < s.length.sub x.2.toNat else ∃ (y : Int × Int), U.stref10_formed_5 s x.1 (IntKind.i64.wrap (x.2.add (1 : Int))) = U.stref10_formed_5 s y.1
 y.2 ∧ U.Iref10_formed_5 s y.1 y.2 ∧ s.length.sub y.2.toNat < s.length.sub x.2.toNat else decide (x.1 ≤ (4 : Int)) = U.formedN s ∧ True
def vcref10_Clean (s : List Int) : Prop := s.length ≤ (1000000000000 : Nat) ∧ bif !U.formedN s then [] = (U.cleanN s).1 ∧ (3 : Int) = (U.cleanN s).2 ∧ True else (decide ((↑s.length : Int) < (5 : Int)) = false → decide ((↑s.length : Int) > (5 : Int)) = true → (0 : Int) ≤ (5 : Int)) ∧ (decide ((↑s.length : Int) < (5 : Int)) = false → decide ((↑s.length : Int) > (5 : Int)) = true → (5 : Int) <
 (↑s.length : Int)) ∧ bif bif decide ((↑s.length : Int) < (5 : Int)) then true else bif decide ((↑s.length : Int) > (5 : Int)) then s.getD (5 : Nat) (0 : Int) != (47 : Int) else false then s = (U.cleanN s).1 ∧ (0 : Int) = (U.cleanN s).2 ∧ True else ∃ (x0 : Int), (U.stref10_Clean_6 s (0 : Int) = U.stref10_Clean_6 s x0 ∧ U.Iref10_Clean_6 s x0) ∧ ∀ (x : Int), U.Iref10_Clean_6 s x → bif decide (x < (5 :
 Int)) then (0 : Int) ≤ x ∧ x < (↑s.length : Int) ∧ bif bif decide (s.getD x.toNat (0 : Int) ≥ (97 : Int)) then decide (s.getD x.toNat (0 : Int) ≤ (122 : Int)) else false then (0 : Int) ≤ x ∧ x < (↑((5 : Nat)) : Int) ∧ bif IntKind.u8.wrap ((s.getD x.toNat (0 : Int)).sub (32 : Int)) != [(73 : Int), (78 : Int), (66 : Int), (79 : Int), (88 : Int)].getD x.toNat (0 : Int) then s = (U.cleanN s).1 ∧ (0 :
 Int) = (U.cleanN s).2 ∧ True else ∃ (y : Int), U.stref10_Clean_6 s (IntKind.i64.wrap (x.add (1 : Int))) = U.stref10_Clean_6 s y ∧ U.Iref10_Clean_6 s y ∧ Nat.sub (5 : Nat) y.toNat < Nat.sub (5 : Nat) x.toNat else (0 : Int) ≤ x ∧ x < (↑((5 : Nat)) : Int) ∧ bif s.getD x.toNat (0 : Int) != [(73 : Int), (78 : Int), (66 : Int), (79 : Int), (88 : Int)].getD x.toNat (0 : Int) then s = (U.cleanN s).1 ∧ (0 :
 Int) = (U.cleanN s).2 ∧ True else ∃ (y : Int), U.stref10_Clean_6 s (IntKind.i64.wrap (x.add (1 : Int))) = U.stref10_Clean_6 s y ∧ U.Iref10_Clean_6 s y ∧ Nat.sub (5 : Nat) y.toNat < Nat.sub (5 : Nat) x.toNat else (0 : Int) ≤ (5 : Int) ∧ (5 : Int) ≤ (↑s.length : Int) ∧ (↑s.length : Int) ≤ (↑s.length : Int) ∧ Nat.add ((5 : Nat)) (List.take ((↑s.length : Int).toNat.sub (5 : Nat)) (List.drop (5 : Nat)
 s)).length ≤ (9223372036854775807 : Nat) ∧ (73 : Int) :: (78 : Int) :: (66 : Int) :: (79 : Int) :: (88 : Int) :: List.take ((↑s.length : Int).toNat.sub (5 : Nat)) (List.drop (5 : Nat) s) = (U.cleanN s).1 ∧ (0 : Int) = (U.cleanN s).2 ∧ True
def vcref10_Right (s : List Int) : Prop := s.length ≤ (1000000000000 : Nat) ∧ (bif decide ((U.cleanN s).2 = (0 : Int)) then (U.cleanN s).1.beq s else false) = U.rightN s ∧ True
end Go.Proofs.YtllmhikoaklpbaaDoor

set_option linter.unusedSimpArgs false
set_option linter.unusedVariables false
set_option maxRecDepth 100000
namespace Go.Proofs.YtllmhikoaklpbaaDoor
open Go.Vc
open Go.Vc.T
theorem idxB_mem : ∀ (l : List Int) (c : Int), (idxB l c ≥ 0) ↔ c ∈ l
  | [], c => by simp [idxB]
  | x :: l, c => by
    have ih := idxB_mem l c
    have hb := idxB_bounds l c
    unfold idxB; rw [List.mem_cons]
    by_cases hx : x = c
    · simp [hx]
    · rw [if_neg hx]
      by_cases hi : idxB l c = -1
      · rw [if_pos hi]
        constructor
        · intro h; omega
        · rintro (h | h)
          · exact absurd h.symm hx
          · have := ih.2 h; omega
      · rw [if_neg hi]
        constructor
        · intro _; exact .inr (ih.1 (by omega))
        · intro _; omega
theorem odd_eq (c : Int) : U.oddB c = (decide (c ≤ 32) || decide (c > 126) || decide (c = 40) || decide (c = 41) || decide (c = 123) || decide (c = 37) || decide (c = 42) || decide (c = 34) || decide (c = 92)) := by
  have e : decide (idxB [40, 41, 123, 37, 42, 34, 92] c ≥ 0) = (decide (c = 40) || decide (c = 41) || decide (c = 123) || decide (c = 37) || decide (c = 42) || decide (c = 34) || decide (c = 92)) := by
    rw [Bool.eq_iff_iff]
    simp only [decide_eq_true_eq, Bool.or_eq_true]
    have := idxB_mem [40, 41, 123, 37, 42, 34, 92] c
    rw [this]; simp only [List.mem_cons, List.not_mem_nil, or_false]
    omega
  unfold U.oddB; rw [e]; simp only [Bool.or_assoc]
theorem okref10_plain (c : Int) : vcref10_plain c := by
  unfold vcref10_plain
  refine ⟨?_, trivial⟩
  rw [odd_eq, Bool.eq_iff_iff]
  simp only [cond_and, Bool.and_eq_true, decide_eq_true_eq, bne_iff_ne, Bool.not_eq_true', Bool.or_eq_false_iff, decide_eq_false_iff_not]
  omega
theorem okref10_Right (s : List Int) (h : s.length ≤ 1000000000000) : vcref10_Right s := by
  refine ⟨h, ?_, trivial⟩
  unfold U.rightN
  rw [cond_and, list_beq]; congr 1
  rw [Bool.eq_iff_iff]; simp
theorem split_c (c x : Int) (r : List Int) : U.split c (x :: r) = if x = c then [] :: U.split c r else (x :: (U.split c r).headD []) :: (U.split c r).tail := rfl
theorem okS_c (p : Bool) (x : Int) (r : List Int) : U.okS p (x :: r) = cond (decide (x = 47)) (!p && U.okS true r) (U.okS false r) := rfl
theorem cnt_c (x : Int) (r : List Int) : U.cnt47 (x :: r) = cond (decide (x = 47)) 1 0 + U.cnt47 r := by
  unfold U.cnt47; rw [List.filter_cons]
  cases decide (x = 47) <;> simp; omega
theorem split47 (s : List Int) : ((U.split 47 s).length : Int) = 1 + U.cnt47 s := by
  induction s with
  | nil => rfl
  | cons x r ih =>
    rw [split_c, cnt_c]
    have hc : 0 ≤ U.cnt47 r := by unfold U.cnt47; omega
    by_cases h : x = 47
    · rw [if_pos h, decide_eq_true h, List.length_cons]; simp only [cond_true]; omega
    · rw [if_neg h, decide_eq_false h, List.length_cons, List.length_tail]
      simp only [cond_false]
      omega
theorem split_pos (s : List Int) : ∃ a l, U.split 47 s = a :: l := by
  cases h : U.split 47 s with
  | nil =>
    have := split47 s
    rw [h] at this; unfold U.cnt47 at this; simp at this; omega
  | cons a l => exact ⟨a, l, rfl⟩
theorem idxS_mem (x : List Int) : ∀ (l : List (List Int)) (i : Int), 0 ≤ i → (U.idxS x l i < 0 ↔ x ∉ l)
  | [], i, h => by simp [U.idxS]
  | y :: r, i, h => by
    have ih := idxS_mem x r (i + 1) (by omega)
    unfold U.idxS
    by_cases hy : y = x
    · rw [if_pos hy, hy]; simp; omega
    · rw [if_neg hy, ih, List.mem_cons]
      constructor
      · rintro h (rfl | h'); exact hy rfl; exact h h'
      · intro h h'; exact h (.inr h')
theorem okS_split : ∀ s : List Int, (U.okS true s = true ↔ [] ∉ U.split 47 s) ∧ (U.okS false s = true ↔ [] ∉ (U.split 47 s).tail)
  | [] => by simp [U.okS, U.split]
  | x :: r => by
    have ih := okS_split r
    unfold U.okS U.split
    by_cases h : x = 47
    · rw [if_pos h, decide_eq_true h]
      simp only [cond_true, Bool.not_true, Bool.false_and, Bool.not_false, Bool.true_and, List.tail_cons, List.mem_cons, true_or, not_true_eq_false]
      exact ⟨by simp, ih.1⟩
    · rw [if_neg h, decide_eq_false h]
      simp only [cond_false, List.tail_cons, List.mem_cons]
      refine ⟨?_, ih.2⟩
      rw [ih.2]
      simp
theorem formed_eq (s : List Int) : U.formedN s = (decide (s.length ≤ 40) && (decide (1 + U.cnt47 s ≤ 4) && (U.okS true s && !s.any U.oddB))) := by
  unfold U.formedN
  congr 1
  rw [show decide ((U.split 47 s).length ≤ 4) = decide (1 + U.cnt47 s ≤ 4) by rw [decide_eq_decide, ← split47]; omega]
  congr 1
  rw [← (idxP_neg U.oddB s 0 (by omega)).1, show (!decide (U.idxP U.oddB s 0 ≥ 0)) = decide (U.idxP U.oddB s 0 < 0) from ge_not _]
  congr 1
  rw [Bool.eq_iff_iff, decide_eq_true_eq, idxS_mem [] _ 0 (by omega), (okS_split s).1]
theorem okref10_formed (s : List Int) (h : s.length ≤ 1000000000000) : vcref10_formed s := by
  unfold vcref10_formed
  simp only [cond_prop, cond_and, cond_or, int_add, int_sub, nat_sub, decide_eq_true_eq, decide_eq_false_iff_not, Bool.or_eq_true, Bool.or_eq_false_iff, Bool.and_eq_true, Bool.and_eq_false_iff, Bool.not_not, U.Iref10_formed_5, U.at_]
  refine ⟨fun hl => ⟨?_, trivial⟩, fun hl => ⟨(1, 0), ⟨rfl, by omega, by omega, ⟨by omega, by omega⟩, fun hz => by omega, by omega, by omega, rfl, rfl, by simp⟩, ?_⟩⟩
  · rcases hl with hl | hl
    · obtain rfl : s = [] := List.length_eq_zero_iff.1 (by omega)
      rfl
    · rw [formed_eq, show decide (s.length ≤ 40) = false by rw [decide_eq_false_iff_not]; omega]; rfl
  rintro ⟨n, i⟩ ⟨hs1, hs2, ⟨h0, h1⟩, hend, hn0, hn1, ha, ho, hc⟩
  simp only [] at *
  refine ⟨fun hi => ?_, fun hi => ⟨?_, trivial⟩⟩
  · simp (disch := omega) only [wrap_i]
    have hx : s.getD i.toNat 0 = s[i.toNat] := getD_at (by omega)
    rw [hx]
    have hd := drop_at h0 hi
    rw [hd, List.any_cons] at ha
    rw [hd] at ho hc
    have hp1 : U.prevS s (i + 1) = decide (s[i.toNat] = 47) := by
      unfold U.prevS
      rw [show decide (i + 1 = 0) = false by rw [decide_eq_false_iff_not]; omega, Bool.false_or, show (i + 1 - 1).toNat = i.toNat by omega, hx]
    rw [cnt_c] at hc
    rw [okS_c] at ho
    refine ⟨h0, hi, fun _ => h0, fun _ => hi, fun _ _ _ => by omega, fun _ _ _ => by omega, fun hb => ⟨?_, trivial⟩, fun hb => ⟨h0, hi, fun he => ⟨(n + 1, i + 1), rfl, ⟨hs1, hs2, ⟨by show 0 ≤ i + 1; omega, by show i + 1 ≤ _; omega⟩, ?_, by show 1 ≤ n + 1; omega, by show n + 1 ≤ i + 1 + 1; omega, ?_, ?_, ?_⟩, by show s.length - (i + 1).toNat < _; omega⟩, fun he => ⟨(n, i + 1), rfl, ⟨hs1, hs2, ⟨by show 0 ≤ i + 1; omega, by show i + 1 ≤ _; omega⟩, ?_, hn0, by show n ≤ i + 1 + 1; omega, ?_, ?_, ?_⟩, by show s.length - (i + 1).toNat < _; omega⟩⟩⟩
    · rw [formed_eq]
      rcases hb with hb | ⟨hb1, hb2⟩
      · rw [ha, hb]; simp
      · rw [ho, hb1]
        rcases hb2 with (hb2 | hb2) | hb2
        · simp [U.prevS, hb2]
        · rw [drop_end (i := i + 1) (by omega)]; simp [U.okS]
        · have hp : U.prevS s i = true := by unfold U.prevS; rw [Bool.or_eq_true]; exact .inr (decide_eq_true hb2)
          rw [hp]; simp
    · show i + 1 = _ → U.prevS s (i + 1) = false
      rintro hie; exfalso; exact hb.2.elim (fun h => h he) (fun h => h.1.2 (by omega))
    · rw [ha, hb.1, Bool.false_or]
    · rw [ho, hp1, he]
      rcases hb.2 with h | h
      · exact absurd he h
      · have hp : U.prevS s i = false := by unfold U.prevS; rw [Bool.or_eq_false_iff]; exact ⟨decide_eq_false h.1.1, decide_eq_false h.2⟩
        rw [hp]; simp
    · show 1 + U.cnt47 s = n + 1 + _
      rw [hc, decide_eq_true he]; simp only [cond_true]; omega
    · show i + 1 = _ → U.prevS s (i + 1) = false
      rintro hie; rw [hp1, decide_eq_false he]
    · rw [ha, hb.1, Bool.false_or]
    · rw [ho, hp1, decide_eq_false he]; rfl
    · show 1 + U.cnt47 s = n + _
      rw [hc, decide_eq_false he]; simp only [cond_false]; omega
  · have hi : i = s.length := by omega
    rw [formed_eq, ha, ho, hend hi, drop_end (by omega), decide_eq_true hs2, Bool.true_and]
    rw [drop_end (by omega)] at hc
    have : U.cnt47 [] = 0 := rfl
    rw [hc, this]; simp [U.okS]
theorem first_cons (x : Int) (r : List Int) : U.firstN (x :: r) = (if x = 47 then [] else x :: U.firstN r) ∧ U.restN (x :: r) = (if x = 47 then x :: r else U.restN r) := by
  unfold U.firstN U.restN
  rw [idxB]
  have hb := idxB_bounds r 47
  by_cases hx : x = 47
  · simp [hx]
  · rw [if_neg hx, if_neg hx, if_neg hx]
    by_cases hi : idxB r 47 = -1
    · rw [if_pos hi, hi]; exact ⟨rfl, rfl⟩
    · rw [if_neg hi, show decide (idxB r 47 ≥ 0) = true by rw [decide_eq_true_eq]; omega, show decide (idxB r 47 + 1 ≥ 0) = true by rw [decide_eq_true_eq]; omega, show (idxB r 47 + 1).toNat = (idxB r 47).toNat + 1 by omega]
      exact ⟨rfl, rfl⟩
theorem first_spec : ∀ s : List Int, U.firstN s ++ U.restN s = s ∧ 47 ∉ U.firstN s ∧ (U.restN s = [] ∨ ∃ r, U.restN s = 47 :: r)
  | [] => ⟨rfl, by simp [U.firstN], .inl rfl⟩
  | x :: r => by
    obtain ⟨h1, h2, h3⟩ := first_spec r
    rw [(first_cons x r).1, (first_cons x r).2]
    by_cases hx : x = 47
    · rw [if_pos hx, if_pos hx, hx]; exact ⟨rfl, by simp, .inr ⟨r, rfl⟩⟩
    · rw [if_neg hx, if_neg hx]; refine ⟨by rw [List.cons_append, h1], ?_, h3⟩
      rw [List.mem_cons]; rintro (h | h)
      · exact hx h.symm
      · exact h2 h
theorem first_uniq : ∀ a b : List Int, 47 ∉ a → (b = [] ∨ ∃ r, b = 47 :: r) → U.firstN (a ++ b) = a ∧ U.restN (a ++ b) = b
  | [], b, _, h => by
    rcases h with rfl | ⟨r, rfl⟩
    · exact ⟨rfl, rfl⟩
    · rw [List.nil_append, (first_cons 47 r).1, (first_cons 47 r).2]; exact ⟨rfl, rfl⟩
  | x :: a, b, ha, h => by
    have ih := first_uniq a b (fun h => ha (List.mem_cons_of_mem _ h)) h
    have hx : x ≠ 47 := fun h => ha (by rw [h]; exact List.mem_cons_self ..)
    rw [List.cons_append, (first_cons x _).1, (first_cons x _).2, if_neg hx, if_neg hx, ih.1, ih.2]; exact ⟨rfl, rfl⟩
theorem clean_of {s : List Int} (hf : U.formedN s = true) : U.cleanN s = (cond (decide ((U.firstN s).map lowB = U.inboxL.map lowB)) U.inboxL (U.firstN s) ++ U.restN s, 0) := by
  unfold U.cleanN; rw [hf]; rfl
theorem clean_same {s : List Int} (hf : U.formedN s = true) (hn : ¬ (U.firstN s).map lowB = U.inboxL.map lowB) : U.cleanN s = (s, 0) := by
  rw [clean_of hf, decide_eq_false hn]
  show (U.firstN s ++ U.restN s, (0 : Int)) = (s, 0)
  rw [(first_spec s).1]
theorem low_five {s : List Int} (h : (U.firstN s).map lowB = U.inboxL.map lowB) : 5 ≤ s.length ∧ (s.length = 5 ∨ s.getD 5 0 = 47) ∧ s.take 5 = U.firstN s ∧ s.drop 5 = U.restN s := by
  have hl : (U.firstN s).length = 5 := by
    have := congrArg List.length h
    rw [List.length_map, List.length_map] at this; exact this
  obtain ⟨h1, h2, h3⟩ := first_spec s
  generalize U.firstN s = a at *
  generalize U.restN s = b at *
  subst h1
  refine ⟨by rw [List.length_append]; omega, ?_, by rw [← hl]; simp, by rw [← hl]; simp⟩
  rcases h3 with rfl | ⟨r, rfl⟩
  · left; rw [List.append_nil]; exact hl
  · right; rw [getD_at (by rw [List.length_append, List.length_cons]; omega), List.getElem_append_right (by omega)]; simp [hl]
theorem low_up {x y : Int} (hy : 65 ≤ y ∧ y ≤ 90) : (97 ≤ x ∧ x ≤ 122 → (lowB x = lowB y ↔ x - 32 = y)) ∧ (¬ (97 ≤ x ∧ x ≤ 122) → (lowB x = lowB y ↔ x = y)) := by
  unfold lowB
  constructor
  · intro h; rw [if_neg (by omega), if_pos (by omega)]; omega
  · intro h; rw [if_pos hy]; by_cases h2 : 65 ≤ x ∧ x ≤ 90
    · rw [if_pos h2]; omega
    · rw [if_neg h2]; omega
theorem okref10_Clean (s : List Int) (hb : ∀ x ∈ s, Byte x) (h : s.length ≤ 1000000000000) : vcref10_Clean s := by
  unfold vcref10_Clean
  refine ⟨h, ?_⟩
  cases hf : U.formedN s with
  | false => unfold U.cleanN; rw [hf]; exact ⟨rfl, rfl, trivial⟩
  | true =>
    simp only [Bool.not_true, cond_false, cond_prop, cond_and, cond_or, int_add, int_sub, nat_sub, nat_add, decide_eq_true_eq, decide_eq_false_iff_not, Bool.or_eq_true, Bool.or_eq_false_iff, Bool.and_eq_true, Bool.and_eq_false_iff, bne_iff_ne, bne_eq_false_iff_eq, U.Iref10_Clean_6]
    refine ⟨fun _ _ => by omega, fun _ _ => by omega, fun hl => ?_, fun hl => ⟨0, ⟨rfl, by omega, ?_, by omega, by omega, rfl⟩, ?_⟩⟩
    · have hn : ¬ (U.firstN s).map lowB = U.inboxL.map lowB := by
        intro he
        obtain ⟨h1, h2, _⟩ := low_five he
        rcases hl with hl | hl
        · omega
        · rcases h2 with h2 | h2
          · omega
          · exact hl.2 h2
      rw [clean_same hf hn]; exact ⟨rfl, rfl, trivial⟩
    · rcases hl.2 with h' | h'
      · left; omega
      · exact .inr h'
    · rintro i ⟨hs5, hs6, h0, h1, h2⟩
      refine ⟨fun hi => ?_, fun hi => ?_⟩
      · have hx : s.getD i.toNat 0 = s[i.toNat] := getD_at (by omega)
        have hy : [(73 : Int), 78, 66, 79, 88].getD i.toNat 0 = U.inboxL[i.toNat]'(by show i.toNat < 5; omega) := getD_at (by show i.toNat < 5; omega)
        have hyb : 65 ≤ U.inboxL[i.toNat]'(by show i.toNat < 5; omega) ∧ U.inboxL[i.toNat]'(by show i.toNat < 5; omega) ≤ 90 := by
          have : ∀ z ∈ U.inboxL, (65 : Int) ≤ z ∧ z ≤ 90 := by decide
          exact this _ (List.getElem_mem _)
        have hup := low_up (x := s[i.toNat]) hyb
        have hbx := hb s[i.toNat] (List.getElem_mem _)
        have hbx0 : 0 ≤ s[i.toNat] ∧ s[i.toNat] ≤ 255 := ⟨hbx.1, by have := hbx.2; omega⟩
        have ht := take_at (l := s) h0 (by omega)
        have ht2 := take_at (l := U.inboxL) h0 (by show i < 5; omega)
        have hbad : ¬ lowB s[i.toNat] = lowB (U.inboxL[i.toNat]'(by show i.toNat < 5; omega)) → s = (U.cleanN s).1 ∧ 0 = (U.cleanN s).2 ∧ True := by
          intro hne
          have hn : ¬ (U.firstN s).map lowB = U.inboxL.map lowB := by
            intro he
            obtain ⟨_, _, h3, _⟩ := low_five he
            rw [← h3] at he
            apply hne
            have this : ((s.take 5).map lowB).getD i.toNat 0 = (U.inboxL.map lowB).getD i.toNat 0 := by rw [he]
            rw [getD_at (by rw [List.length_map, List.length_take]; omega), getD_at (by rw [List.length_map]; show i.toNat < 5; omega)] at this
            simpa using this
          rw [clean_same hf hn]; exact ⟨rfl, rfl, trivial⟩
        have hgood : lowB s[i.toNat] = lowB (U.inboxL[i.toNat]'(by show i.toNat < 5; omega)) → (s.take (i + 1).toNat).map lowB = (U.inboxL.take (i + 1).toNat).map lowB := by
          intro he
          rw [ht, ht2, List.map_append, List.map_append, h2, List.map_singleton, List.map_singleton, he]
        rw [hx, hy, wrap_i (x := i + 1) (by omega) (by omega), wrap_u8]
        refine ⟨h0, by omega, fun hlo => ⟨h0, hi, fun hne => hbad ?_, fun he => ⟨i + 1, rfl, ⟨hs5, hs6, by omega, by omega, hgood ?_⟩, by omega⟩⟩, fun hlo => ⟨h0, hi, fun hne => hbad ?_, fun he => ⟨i + 1, rfl, ⟨hs5, hs6, by omega, by omega, hgood ?_⟩, by omega⟩⟩⟩
        · rw [(hup.1 hlo)]; omega
        · rw [(hup.1 hlo)]; omega
        · rw [hup.2 (by omega)]; exact hne
        · rw [hup.2 (by omega)]; exact he
      · have h5 : i = 5 := by omega
        subst h5
        have h2 : (s.take 5).map lowB = U.inboxL.map lowB := h2
        have hno : 47 ∉ s.take 5 := by
          intro hm
          have : lowB 47 ∈ (s.take 5).map lowB := List.mem_map_of_mem hm
          rw [h2] at this; revert this; decide
        have hd : s.drop 5 = [] ∨ ∃ r, s.drop 5 = 47 :: r := by
          rcases hs6 with h6 | h6
          · left; exact List.drop_eq_nil_of_le (by omega)
          · by_cases hl5 : s.length = 5
            · left; exact List.drop_eq_nil_of_le (by omega)
            · right; rw [List.drop_eq_getElem_cons (by omega)]; rw [getD_at (by omega)] at h6; rw [h6]; exact ⟨_, rfl⟩
        have hu := first_uniq (s.take 5) (s.drop 5) hno hd
        rw [List.take_append_drop] at hu
        have hc := clean_of hf
        rw [hu.1, hu.2, decide_eq_true h2] at hc
        have htk : List.take ((s.length : Int).toNat - 5) (s.drop 5) = s.drop 5 := List.take_of_length_le (by rw [List.length_drop]; omega)
        rw [htk, hc]
        exact ⟨by omega, by omega, by omega, by rw [List.length_drop]; omega, rfl, rfl, trivial⟩
end Go.Proofs.YtllmhikoaklpbaaDoor

set_option linter.unusedSimpArgs false
set_option maxRecDepth 100000
set_option linter.unusedVariables false
namespace Go.Proofs.YtllmhikoaklpbaaDoor
open Go.Vc
theorem wref10_plain (x : DenL [.int .u8]) : Owes Tryd.prog (cfgOf Qname_Right) (Lref10_plain x) 76 (argVs [.int .u8] x) [] (dref10_plain x) = vcref10_plain x := by kernel_rfl
theorem qref10_plain : Pok 76 [.int .u8] (fun x => dref10_plain x) := by
  refine pk (L := fun x => Lref10_plain x) (l := Qname_Right) aQname_Right (fun _ => rfl) ?_
  intro x hv hp
  rw [wref10_plain]
  exact okref10_plain x
theorem pref10_plain : SumOk Tryd.prog gl 76 sref10_plain := qref10_plain
theorem aQref10_plain : AllOk Qref10_plain := .cons pref10_plain aQname_Right
theorem wref10_formed (x : DenL [.str]) : Owes Tryd.prog (cfgOf Qref10_plain) (Lref10_formed x) 71 (argVs [.str] x) [] (dref10_formed x) = vcref10_formed x := by kernel_rfl
theorem qref10_formed : Pok 71 [.str] (fun x => dref10_formed x) := by
  refine pk (L := fun x => Lref10_formed x) (l := Qref10_plain) aQref10_plain (fun _ => rfl) ?_
  intro x hv hp
  rw [wref10_formed]
  exact okref10_formed x (hp (List.length x ≤ 1000000000000) (by simp [dref10_formed]))
theorem pref10_formed : SumOk Tryd.prog gl 71 sref10_formed := qref10_formed
theorem aQref10_formed : AllOk Qref10_formed := .cons pref10_formed aQref10_plain
theorem wref10_Clean (x : DenL [.str]) : Owes Tryd.prog (cfgOf Qref10_formed) (Lref10_Clean x) 63 (argVs [.str] x) [] (dref10_Clean x) = vcref10_Clean x := by kernel_rfl
theorem qref10_Clean : Pok 63 [.str] (fun x => dref10_Clean x) := by
  refine pk (L := fun x => Lref10_Clean x) (l := Qref10_formed) aQref10_formed (fun _ => rfl) ?_
  intro x hv hp
  rw [wref10_Clean]
  exact okref10_Clean x hv.1 (hp (List.length x ≤ 1000000000000) (by simp [dref10_Clean]))
theorem pref10_Clean : SumOk Tryd.prog gl 63 sref10_Clean := qref10_Clean
theorem aQref10_Clean : AllOk Qref10_Clean := .cons pref10_Clean aQref10_formed
theorem wref10_Right (x : DenL [.str]) : Owes Tryd.prog (cfgOf Qref10_Clean) (Lref10_Right x) 39 (argVs [.str] x) [] (dref10_Right x) = vcref10_Right x := by kernel_rfl
theorem qref10_Right : Pok 39 [.str] (fun x => dref10_Right x) := by
  refine pk (L := fun x => Lref10_Right x) (l := Qref10_Clean) aQref10_Clean (fun _ => rfl) ?_
  intro x hv hp
  rw [wref10_Right]
  exact okref10_Right x (hp (List.length x ≤ 1000000000000) (by simp [dref10_Right]))
theorem pref10_Right : SumOk Tryd.prog gl 39 sref10_Right := qref10_Right
theorem aQref10_Right : AllOk Qref10_Right := .cons pref10_Right aQref10_Clean
end Go.Proofs.YtllmhikoaklpbaaDoor
