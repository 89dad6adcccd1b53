/- What functions of this seat compute, in plain Lean. -/
import Derived.Test.YtllmhikoaklpbaaDoorA
set_option linter.unusedVariables false
set_option linter.unusedSimpArgs false
set_option maxRecDepth 100000
namespace Go.Proofs.YtllmhikoaklpbaaDoor
open Go.Vc
namespace U
def oddB (c : Int) : Bool := decide (c ≤ 32) || (decide (c > 126) || decide (idxB [40, 41, 123, 37, 42, 34, 92] c ≥ 0))
def wildB (c : Int) : Bool := decide (c = 42) || decide (c = 37)
def patB (c : Int) : Bool := oddB c && !wildB c
def idxP (p : Int → Bool) : List Int → Int → Int
  | [], _ => -1
  | x :: r, i => if p x then i else idxP p r (i + 1)
end U
namespace U
def formedN (s : List Int) : Bool := decide (s.length ≤ 40) && (decide ((split 47 s).length ≤ 4) && (decide (idxS [] (split 47 s) 0 < 0) && decide (idxP oddB s 0 < 0)))
end U
namespace U
def inboxL : List Int := [73, 78, 66, 79, 88]
def firstN (s : List Int) : List Int := cond (decide (idxB s 47 ≥ 0)) (s.take (idxB s 47).toNat) s
def restN (s : List Int) : List Int := cond (decide (idxB s 47 ≥ 0)) (47 :: s.drop ((idxB s 47).toNat + 1)) []
def cleanN (s : List Int) : List Int × Int := cond (formedN s) ((cond (decide ((firstN s).map lowB = inboxL.map lowB)) inboxL (firstN s)) ++ restN s, 0) ([], 3)
def rightN (s : List Int) : Bool := decide ((cleanN s).2 = 0) && decide ((cleanN s).1 = s)
def aboveFrom (s : List Int) : Nat → List (List Int)
  | 0 => []
  | i + 1 => aboveFrom s i ++ cond (decide (s.getD i 0 = 47)) [s.take i] []
def aboveN (s : List Int) : List (List Int) := cond (rightN s) (aboveFrom s s.length) []
def belowN (s top : List Int) : Bool := decide (idxS top (aboveN s) 0 ≥ 0)
def patternN (s : List Int) : Bool := decide (s.length ≤ 80) && decide (idxP patB s 0 < 0)
def anySuf (f : List Int → Bool) : List Int → Bool
  | [] => f []
  | x :: s => f (x :: s) || anySuf f s
def anyRun (f : List Int → Bool) : List Int → Bool
  | [] => f []
  | x :: s => f (x :: s) || (decide (x ≠ 47) && anyRun f s)
def matchP : List Int → List Int → Bool
  | [], s => s.isEmpty
  | c :: p, s => cond (decide (c = 42)) (anySuf (matchP p) s) (cond (decide (c = 37)) (anyRun (matchP p) s) (match s with | [] => false | x :: r => decide (c = x) && matchP p r))
def mAt (p s : List Int) (i j : Int) : Bool := matchP (p.drop i.toNat) (s.drop j.toNat)
def litI (p s : List Int) (x d i j : Int) : Prop :=
  d ≤ j ∧ ∀ k : Int, 0 ≤ k → k ≤ s.length → mAt p s x k = true → k + (j - d) ≤ s.length ∧ mAt p s i (k + (j - d)) = true ∧ ∀ n : Int, 0 ≤ n → n < j - d → s.getD (k + n).toNat 0 = s.getD (d + n).toNat 0
def likeI (p s : List Int) (a b c d i j : Int) : Prop :=
  (0 ≤ i ∧ i ≤ p.length ∧ 0 ≤ j ∧ j ≤ s.length ∧ -1 ≤ a ∧ a < i ∧ 0 ≤ b ∧ b ≤ j ∧ -1 ≤ c ∧ c < i ∧ 0 ≤ d ∧ d ≤ j ∧ (c < 0 → d = 0) ∧ (c ≥ 0 → a < c ∧ b ≤ d) ∧
  (a ≥ 0 → p.getD a.toNat 0 = 42) ∧ (c ≥ 0 → p.getD c.toNat 0 = 37)) ∧
  (c ≥ 0 → litI p s (c + 1) d i j) ∧ (a ≥ 0 → c < 0 → litI p s (a + 1) b i j) ∧
  (a ≥ 0 → c ≥ 0 → ∀ t : Int, b ≤ t → t ≤ s.length → mAt p s (a + 1) t = true → ∃ k : Int, d ≤ k ∧ k ≤ s.length ∧ mAt p s (c + 1) k = true) ∧
  (matchP p s = true ↔ mAt p s i j = true ∨ (c ≥ 0 ∧ d < s.length ∧ s.getD d.toNat 0 ≠ 47 ∧ mAt p s c (d + 1) = true) ∨ (a ≥ 0 ∧ b < s.length ∧ mAt p s a (b + 1) = true))
def likeN (p s : List Int) : Bool := patternN p && (rightN s && matchP p s)
def joinN (b p : List Int) : List Int × Int := cond (patternN (b ++ p)) (b ++ p, 0) ([], 3)
end U
abbrev rSE (x : List Int × Int) : SV := .tup [one (.str x.1), one (.int .i64 x.2)]
namespace U
def stIndexFuncO (l : List Int) (i : Int) : St2 := ⟨⟨[own 0] ++ [sF 80 []] ++ U.n 5 ++ [sI l.length] ++ [sI i] ++ U.n 10, [], [(0, .row 5 (.int .u8) true false l)]⟩, 1, []⟩
def IIndexFuncO (l : List Int)  (i : Int) : Prop := at_ l i ∧ idxP oddB (l.drop i.toNat) i = idxP oddB l 0
end U
def lpIndexFuncO (l : List Int) : Vc.Loop := ⟨{ keep := [0, 1, 7, 8] }, Int, fun x => U.stIndexFuncO l x, fun x0 x => U.IIndexFuncO l  x, fun x => l.length - x.toNat⟩
def dname_odd (c : Int) : Done := rB (U.oddB c)
def sname_odd : Vc.Sum := .pure [.int .u8] false fun x => dname_odd x
def Lname_odd (c : Int) : Nat → List V → Nat → Option Vc.Loop := noKeep
def Qname_odd : List (Nat × Ent) := (80, .sum sname_odd) :: Qslices_Index_string_string
def dslices_ContainsFunc_byte_byteO (l : List Int) : Done := ⟨[], .one (.bool (decide (U.idxP U.oddB l 0 ≥ 0))), [.dead], []⟩
def arslices_ContainsFunc_byte_byteO (l : List Int) : List V := [⟨false, [.own 0]⟩, ⟨false, [.fn 80 []]⟩]
def esslices_ContainsFunc_byte_byteO (l : List Int) : List Entry := [.row 5 (.int .u8) true false l]
def Lslices_ContainsFunc_byte_byteO (l : List Int) : Nat → List V → Nat → Option Vc.Loop := fun f v k => cond (Nat.beq f 86 && Nat.beq k 2) (some (lpIndexFuncO l)) <| none
def alslices_ContainsFunc_byte_byteO : List V → List Entry → Option Done
  | [⟨false, [.own n1]⟩, ⟨false, [.fn n2 []]⟩], [.row n3 (.int .u8) true false l] => cond (Nat.beq n1 0 && Nat.beq n2 80 && Nat.beq n3 5) (some (dslices_ContainsFunc_byte_byteO l)) none
  | _, _ => none
theorem alslices_ContainsFunc_byte_byteO_eq {args : List V} {es : List Entry} {d : Done} (h : alslices_ContainsFunc_byte_byteO args es = some d) : ∃ l, args = arslices_ContainsFunc_byte_byteO l ∧ es = esslices_ContainsFunc_byte_byteO l ∧ d = dslices_ContainsFunc_byte_byteO l := by
  unfold alslices_ContainsFunc_byte_byteO at h
  split at h
  · obtain ⟨hb, hd⟩ := cond_some h; simp only [Bool.and_eq_true, Nat.beq_eq] at hb; (try obtain ⟨⟨rfl, rfl⟩, rfl⟩ := hb); subst hd; (try subst_vars); exact ⟨_, rfl, rfl, rfl⟩
  · cases h
def Fslices_ContainsFunc_byte_byte (args : List V) (es : List Entry) : Option Done := orE (alslices_ContainsFunc_byte_byteO args es) (none)
def sslices_ContainsFunc_byte_byte : Vc.Sum := .gen Fslices_ContainsFunc_byte_byte
def Qslices_ContainsFunc_byte_byte : List (Nat × Ent) := (79, .sum sslices_ContainsFunc_byte_byte) :: Qname_odd
def dname_formed (s : List Int) : Done := ⟨[s.length ≤ 1000000000000], .one (.bool (U.formedN s)), [], []⟩
def sname_formed : Vc.Sum := .pure [.str] false fun x => dname_formed x
def Lname_formed (s : List Int) : Nat → List V → Nat → Option Vc.Loop := noKeep
def Qname_formed : List (Nat × Ent) := (72, .sum sname_formed) :: Qslices_ContainsFunc_byte_byte
def dname_Clean (s : List Int) : Done := ⟨[s.length ≤ 1000000000000], rSE (U.cleanN s), [], []⟩
def sname_Clean : Vc.Sum := .pure [.str] false fun x => dname_Clean x
def Lname_Clean (s : List Int) : Nat → List V → Nat → Option Vc.Loop := noKeep
def Qname_Clean : List (Nat × Ent) := (67, .sum sname_Clean) :: Qname_formed
def dname_Right (s : List Int) : Done := ⟨[s.length ≤ 1000000000000], .one (.bool (U.rightN s)), [], []⟩
def sname_Right : Vc.Sum := .pure [.str] false fun x => dname_Right x
def Lname_Right (s : List Int) : Nat → List V → Nat → Option Vc.Loop := noKeep
def Qname_Right : List (Nat × Ent) := (58, .sum sname_Right) :: Qname_Clean
end Go.Proofs.YtllmhikoaklpbaaDoor

set_option maxRecDepth 100000
set_option linter.unusedVariables false
namespace Go.Proofs.YtllmhikoaklpbaaDoor
open Go.Vc
def vcname_odd (c : Int) : Prop := (bif bif decide (c ≤ (32 : Int)) then true else decide (c > (126 : Int)) then true else decide (idxB [(40 : Int), (41 : Int), (123 : Int), (37 : Int), (42 : Int), (34 : Int), (92 : Int)] c ≥ (0 : Int))) = U.oddB c ∧ True
def vcslices_ContainsFunc_byte_byteO (l : List Int) : Prop := ∃ (x0 : Int), (U.stIndexFuncO l (0 : Int) = U.stIndexFuncO l x0 ∧ U.IIndexFuncO l x0) ∧ ∀ (x : Int), U.IIndexFuncO l x → bif decide (x < (↑l.length : Int)) then (0 : Int) ≤ x ∧ x < (↑l.length : Int) ∧ x.toNat < l.length ∧ bif U.oddB (l.getD x.toNat (0 : Int)) then decide (x ≥ (0 : Int)) = decide (U.idxP U.oddB l (0 : Int) ≥ (0 : Int)) ∧
 True else ∃ (y : Int), U.stIndexFuncO l (IntKind.i64.wrap (x.add (1 : Int))) = U.stIndexFuncO l y ∧ U.IIndexFuncO l y ∧ l.length.sub y.toNat < l.length.sub x.toNat else decide ((-1 : Int) ≥ (0 : Int)) = decide (U.idxP U.oddB l (0 : Int) ≥ (0 : Int)) ∧ True
def vcname_formed (s : List Int) : Prop := (1 : Nat) = (1 : Nat) ∧ (0 : Int) = (0 : Int) ∧ (-1 : Int) = (-1 : Int) ∧ s.length ≤ (1000000000000 : Nat) ∧ bif bif decide ((↑s.length : Int) ≤ (40 : Int)) then decide ((↑(U.split ([(47 : Int)].getD (0 : Nat) (0 : Int)) s).length : Int) ≤ (4 : Int)) else false then bif !decide (U.idxS [] (U.split ([(47 : Int)].getD (0 : Nat) (0 : Int)) s) (0 : Int) ≥ (0 :
 Int)) then (!decide (U.idxP U.oddB s (0 : Int) ≥ (0 : Int))) = U.formedN s ∧ True else false = U.formedN s ∧ True else false = U.formedN s ∧ True
def vcname_Clean (s : List Int) : Prop := s.length ≤ (1000000000000 : Nat) ∧ bif !U.formedN s then [] = (U.cleanN s).1 ∧ (3 : Int) = (U.cleanN s).2 ∧ True else (1 : Nat) = (1 : Nat) ∧ bif decide (idxB s ([(47 : Int)].getD (0 : Nat) (0 : Int)) ≥ (0 : Int)) then (0 : Int) ≤ (0 : Int) ∧ (0 : Int) ≤ idxB s ([(47 : Int)].getD (0 : Nat) (0 : Int)) ∧ idxB s ([(47 : Int)].getD (0 : Nat) (0 : Int)) ≤
 (↑s.length : Int) ∧ (0 : Int) ≤ IntKind.i64.wrap ((idxB s ([(47 : Int)].getD (0 : Nat) (0 : Int))).add (↑((1 : Nat)) : Int)) ∧ IntKind.i64.wrap ((idxB s ([(47 : Int)].getD (0 : Nat) (0 : Int))).add (↑((1 : Nat)) : Int)) ≤ (↑s.length : Int) ∧ (↑s.length : Int) ≤ (↑s.length : Int) ∧ ((∀ (x : Int), List.Mem x (List.take ((idxB s ([(47 : Int)].getD (0 : Nat) (0 : Int))).toNat.sub (0 : Nat)) (List.drop
 (0 : Nat) s)) → x < (128 : Int)) ∧ (∀ (x : Int), List.Mem x [(73 : Int), (78 : Int), (66 : Int), (79 : Int), (88 : Int)] → x < (128 : Int)) ∧ (List.take ((idxB s ([(47 : Int)].getD (0 : Nat) (0 : Int))).toNat.sub (0 : Nat)) (List.drop (0 : Nat) s)).length ≤ (4000000000 : Nat)) ∧ bif decide (List.map (fun (x : Int) => if (65 : Int) ≤ x ∧ x ≤ (90 : Int) then x.add (32 : Int) else x) (List.take ((idxB
 s ([(47 : Int)].getD (0 : Nat) (0 : Int))).toNat.sub (0 : Nat)) (List.drop (0 : Nat) s)) = [(73 : Int).add (32 : Int), (78 : Int).add (32 : Int), (66 : Int).add (32 : Int), (79 : Int).add (32 : Int), (88 : Int).add (32 : Int)]) then Nat.add ((1 : Nat)) (List.take ((↑s.length : Int).toNat.sub (IntKind.i64.wrap ((idxB s ([(47 : Int)].getD (0 : Nat) (0 : Int))).add (↑((1 : Nat)) : Int))).toNat)
 (List.drop (IntKind.i64.wrap ((idxB s ([(47 : Int)].getD (0 : Nat) (0 : Int))).add (↑((1 : Nat)) : Int))).toNat s)).length ≤ (9223372036854775807 : Nat) ∧ Nat.add ((5 : Nat)) ((List.take ((↑s.length : Int).toNat.sub (IntKind.i64.wrap ((idxB s ([(47 : Int)].getD (0 : Nat) (0 : Int))).add (↑((1 : Nat)) : Int))).toNat) (List.drop (IntKind.i64.wrap ((idxB s ([(47 : Int)].getD (0 : Nat) (0 : Int))).add
 (↑((1 : Nat)) : Int))).toNat s)).length.add (1 : Nat)) ≤ (9223372036854775807 : Nat) ∧ (73 : Int) :: (78 : Int) :: (66 : Int) :: (79 : Int) :: (88 : Int) :: (47 : Int) :: List.take ((↑s.length : Int).toNat.sub (IntKind.i64.wrap ((idxB s ([(47 : Int)].getD (0 : Nat) (0 : Int))).add (↑((1 : Nat)) : Int))).toNat) (List.drop (IntKind.i64.wrap ((idxB s ([(47 : Int)].getD (0 : Nat) (0 : Int))).add (↑((1
 : Nat)) : Int))).toNat s) = (U.cleanN s).1 ∧ (0 : Int) = (U.cleanN s).2 ∧ True else Nat.add ((1 : Nat)) (List.take ((↑s.length : Int).toNat.sub (IntKind.i64.wrap ((idxB s ([(47 : Int)].getD (0 : Nat) (0 : Int))).add (↑((1 : Nat)) : Int))).toNat) (List.drop (IntKind.i64.wrap ((idxB s ([(47 : Int)].getD (0 : Nat) (0 : Int))).add (↑((1 : Nat)) : Int))).toNat s)).length ≤ (9223372036854775807 : Nat) ∧
 (List.take ((idxB s ([(47 : Int)].getD (0 : Nat) (0 : Int))).toNat.sub (0 : Nat)) (List.drop (0 : Nat) s)).length.add ((List.take ((↑s.length : Int).toNat.sub (IntKind.i64.wrap ((idxB s ([(47 : Int)].getD (0 : Nat) (0 : Int))).add (↑((1 : Nat)) : Int))).toNat) (List.drop (IntKind.i64.wrap ((idxB s ([(47 : Int)].getD (0 : Nat) (0 : Int))).add (↑((1 : Nat)) : Int))).toNat s)).length.add (1 : Nat)) ≤
 (9223372036854775807 : Nat) ∧ (List.take ((idxB s ([(47 : Int)].getD (0 : Nat) (0 : Int))).toNat.sub (0 : Nat)) (List.drop (0 : Nat) s)).append ((47 : Int) :: List.take ((↑s.length : Int).toNat.sub (IntKind.i64.wrap ((idxB s ([(47 : Int)].getD (0 : Nat) (0 : Int))).add (↑((1 : Nat)) : Int))).toNat) (List.drop (IntKind.i64.wrap ((idxB s ([(47 : Int)].getD (0 : Nat) (0 : Int))).add (↑((1 : Nat)) :
 Int))).toNat s)) = (U.cleanN s).1 ∧ (0 : Int) = (U.cleanN s).2 ∧ True else ((∀ (x : Int), List.Mem x s → x < (128 : Int)) ∧ (∀ (x : Int), List.Mem x [(73 : Int), (78 : Int), (66 : Int), (79 : Int), (88 : Int)] → x < (128 : Int)) ∧ s.length ≤ (4000000000 : Nat)) ∧ bif decide (List.map (fun (x : Int) => if (65 : Int) ≤ x ∧ x ≤ (90 : Int) then x.add (32 : Int) else x) s = [(73 : Int).add (32 : Int),
 (78 : Int).add (32 : Int), (66 : Int).add (32 : Int), (79 : Int).add (32 : Int), (88 : Int).add (32 : Int)]) then [(73 : Int), (78 : Int), (66 : Int), (79 : Int), (88 : Int)] = (U.cleanN s).1 ∧ (0 : Int) = (U.cleanN s).2 ∧ True else s = (U.cleanN s).1 ∧ (0 : Int) = (U.cleanN s).2 ∧ True
def vcname_Right (s : List Int) : Prop := s.length ≤ (1000000000000 : Nat) ∧ (bif decide ((U.cleanN s).2 = (0 : Int)) then (U.cleanN s).1.beq s else false) = U.rightN s ∧ True
end Go.Proofs.YtllmhikoaklpbaaDoor

set_option linter.unusedSimpArgs false
set_option linter.unusedVariables false
set_option maxRecDepth 100000
namespace Go.Proofs.YtllmhikoaklpbaaDoor
open Go.Vc
open Go.Vc.T
theorem ge_not (a : Int) : (!decide (a ≥ 0)) = decide (a < 0) := by
  rw [Bool.eq_iff_iff]; simp
theorem okname_odd (c : Int) : vcname_odd c := by
  unfold vcname_odd U.oddB
  simp only [cond_or]
  refine ⟨?_, trivial⟩
  rw [Bool.or_assoc]
theorem idxP_neg (p : Int → Bool) : ∀ (l : List Int) (i : Int), 0 ≤ i → (decide (U.idxP p l i ≥ 0) = l.any p) ∧ (U.idxP p l i = -1 ∨ i ≤ U.idxP p l i)
  | [], i, _ => ⟨rfl, .inl rfl⟩
  | x :: r, i, h => by
    have ih := idxP_neg p r (i + 1) (by omega)
    unfold U.idxP
    cases hp : p x with
    | true => simp [hp]; omega
    | false =>
      rw [if_neg (by simp), List.any_cons, hp, Bool.false_or]
      refine ⟨ih.1, ?_⟩
      rcases ih.2 with h | h
      · exact .inl h
      · exact .inr (by omega)
theorem okslices_ContainsFunc_byte_byteO (l : List Int) (hl : l.length ≤ maxLen) : vcslices_ContainsFunc_byte_byteO l := by
  unfold vcslices_ContainsFunc_byte_byteO
  rw [maxLen_eq] at hl
  simp only [cond_prop, int_add, int_neg, nat_sub, U.IIndexFuncO, U.at_, wrap_i64, decide_eq_true_eq, decide_eq_false_iff_not]
  refine ⟨0, ⟨rfl, ⟨by omega, by omega⟩, rfl⟩, ?_⟩
  rintro i ⟨⟨h0, h1⟩, h2⟩
  refine ⟨fun hi => ⟨h0, hi, by omega, fun he => ?_, fun he => ⟨i + 1, ?_, ⟨⟨by omega, by omega⟩, ?_⟩, by omega⟩⟩, fun hi => ?_⟩
  · rw [drop_at h0 hi] at h2
    rw [getD_at (by omega)] at he
    rw [← h2, U.idxP, if_pos he]; simp
  · rw [show (i + 1 + 9223372036854775808) % 18446744073709551616 - 9223372036854775808 = i + 1 by omega]
  · rw [drop_at h0 hi] at h2
    rw [getD_at (by omega)] at he
    rw [← h2, U.idxP, if_neg (by rw [he]; simp)]
  · rw [drop_end (by omega)] at h2
    rw [← h2]; simp [U.idxP]
theorem okname_Right (s : List Int) (h : s.length ≤ 1000000000000) : vcname_Right s := by
  refine ⟨h, ?_, trivial⟩
  unfold U.rightN
  rw [cond_and, list_beq]; congr 1
  rw [Bool.eq_iff_iff]; simp
theorem idxS_low (x : List Int) : ∀ (l : List (List Int)) (i : Int), 0 ≤ i → U.idxS x l i = -1 ∨ i ≤ U.idxS x l i
  | [], i, _ => .inl rfl
  | y :: r, i, h => by
    have ih := idxS_low x r (i + 1) (by omega)
    unfold U.idxS; split
    · exact .inr (by omega)
    · rcases ih with h | h
      · exact .inl h
      · exact .inr (by omega)
theorem formed_len {s : List Int} (h : U.formedN s = true) : s.length ≤ 40 := by
  unfold U.formedN at h
  simp only [Bool.and_eq_true, decide_eq_true_eq] at h
  exact h.1
theorem right_formed {s : List Int} (h : U.rightN s = true) : U.formedN s = true := by
  unfold U.rightN U.cleanN at h
  cases hf : U.formedN s with
  | true => rfl
  | false => rw [hf] at h; simp at h
theorem okname_formed (s : List Int) (h : s.length ≤ 1000000000000) : vcname_formed s := by
  unfold vcname_formed U.formedN
  have hg : [(47 : Int)].getD 0 0 = 47 := rfl
  rw [hg]
  simp only [cond_and, ge_not]
  refine ⟨trivial, trivial, trivial, h, ?_⟩
  rw [show decide ((s.length : Int) ≤ 40) = decide (s.length ≤ 40) by rw [decide_eq_decide]; omega, show decide (((U.split 47 s).length : Int) ≤ 4) = decide ((U.split 47 s).length ≤ 4) by rw [decide_eq_decide]; omega]
  cases decide (s.length ≤ 40) <;> cases decide ((U.split 47 s).length ≤ 4) <;> cases decide (U.idxS [] (U.split 47 s) 0 < 0) <;> simp
theorem formed_ascii {s : List Int} (h : U.formedN s = true) : ∀ x ∈ s, U.oddB x = false := by
  unfold U.formedN at h
  simp only [Bool.and_eq_true, decide_eq_true_eq] at h
  have h2 := (idxP_neg U.oddB s 0 (by omega)).1
  rw [show decide (U.idxP U.oddB s 0 ≥ 0) = false by rw [decide_eq_false_iff_not]; omega] at h2
  intro x hx
  have := h2.symm
  rw [List.any_eq_false] at this
  simpa using this x hx
theorem odd_lt {x : Int} (h : U.oddB x = false) : x < 128 := by
  unfold U.oddB at h
  simp only [Bool.or_eq_false_iff, decide_eq_false_iff_not] at h
  omega
theorem okname_Clean (s : List Int) (hb : ∀ x ∈ s, Byte x) (h : s.length ≤ 1000000000000) : vcname_Clean s := by
  unfold vcname_Clean
  have hg : [(47 : Int)].getD 0 0 = 47 := rfl
  rw [hg]
  have hi := idxB_bounds s 47
  refine ⟨h, ?_⟩
  cases hf : U.formedN s with
  | false => unfold U.cleanN; rw [hf]; exact ⟨rfl, rfl, trivial⟩
  | true =>
    have h40 := formed_len hf
    have hasc : ∀ x ∈ s, x < 128 := fun x hx => odd_lt (formed_ascii hf x hx)
    have hin : ∀ x : Int, x ∈ [(73 : Int), 78, 66, 79, 88] → x < 128 := by intro x hx; simp at hx; omega
    simp only [Bool.not_true, cond_false, cond_prop, decide_eq_true_eq, decide_eq_false_iff_not, nat_sub, nat_add, list_append]
    refine ⟨trivial, fun hpos => ?_, fun hneg => ?_⟩
    · have w1 : IntKind.i64.wrap (Int.add (idxB s 47) ((1 : Nat) : Int)) = idxB s 47 + 1 := by rw [wrap_i64, int_add]; omega
      have hdl : (s.drop (idxB s 47 + 1).toNat).length = s.length - (idxB s 47 + 1).toNat := List.length_drop
      have htl : (s.take (idxB s 47).toNat).length = (idxB s 47).toNat := by rw [List.length_take]; omega
      rw [w1, show ((s.length : Int)).toNat = s.length by omega, List.take_of_length_le (l := s.drop (idxB s 47 + 1).toNat) (by omega), List.drop_zero, Nat.sub_zero]
      have hfst : U.firstN s = s.take (idxB s 47).toNat := by unfold U.firstN; rw [show decide (idxB s 47 ≥ 0) = true by rw [decide_eq_true_eq]; omega]; rfl
      have hrest : U.restN s = 47 :: s.drop (idxB s 47 + 1).toNat := by unfold U.restN; rw [show decide (idxB s 47 ≥ 0) = true by rw [decide_eq_true_eq]; omega, show (idxB s 47 + 1).toNat = (idxB s 47).toNat + 1 by omega]; rfl
      refine ⟨by omega, by omega, by omega, by omega, by omega, by omega, ⟨fun x hx => hasc x (List.mem_of_mem_take hx), hin, by omega⟩, fun heq => ?_, fun heq => ?_⟩
      · refine ⟨by omega, by omega, ?_, ?_, trivial⟩
        · unfold U.cleanN; rw [hf, hfst, hrest, show decide ((s.take (idxB s 47).toNat).map lowB = U.inboxL.map lowB) = true from decide_eq_true heq]; rfl
        · unfold U.cleanN; rw [hf]; rfl
      · refine ⟨by omega, by omega, ?_, ?_, trivial⟩
        · unfold U.cleanN; rw [hf, hfst, hrest, show decide ((s.take (idxB s 47).toNat).map lowB = U.inboxL.map lowB) = false from decide_eq_false heq]; rfl
        · unfold U.cleanN; rw [hf]; rfl
    · have hfst : U.firstN s = s := by unfold U.firstN; rw [show decide (idxB s 47 ≥ 0) = false by rw [decide_eq_false_iff_not]; omega]; rfl
      have hrest : U.restN s = [] := by unfold U.restN; rw [show decide (idxB s 47 ≥ 0) = false by rw [decide_eq_false_iff_not]; omega]; rfl
      refine ⟨⟨fun x hx => hasc x hx, hin, by omega⟩, fun heq => ?_, fun heq => ?_⟩
      · refine ⟨?_, ?_, trivial⟩
        · unfold U.cleanN; rw [hf, hfst, hrest, show decide (s.map lowB = U.inboxL.map lowB) = true from decide_eq_true heq]; rfl
        · unfold U.cleanN; rw [hf]; rfl
      · refine ⟨?_, ?_, trivial⟩
        · unfold U.cleanN; rw [hf, hfst, hrest, show decide (s.map lowB = U.inboxL.map lowB) = false from decide_eq_false heq]
          show s = s ++ []
          rw [List.append_nil]
        · unfold U.cleanN; rw [hf]; rfl
end Go.Proofs.YtllmhikoaklpbaaDoor

set_option linter.unusedSimpArgs false
set_option maxRecDepth 100000
set_option linter.unusedVariables false
namespace Go.Proofs.YtllmhikoaklpbaaDoor
open Go.Vc
theorem wname_odd (x : DenL [.int .u8]) : Owes Tryd.prog (cfgOf Qslices_Index_string_string) (Lname_odd x) 80 (argVs [.int .u8] x) [] (dname_odd x) = vcname_odd x := by kernel_rfl
theorem qname_odd : Pok 80 [.int .u8] (fun x => dname_odd x) := by
  refine pk (L := fun x => Lname_odd x) (l := Qslices_Index_string_string) aQslices_Index_string_string (fun _ => rfl) ?_
  intro x hv hp
  rw [wname_odd]
  exact okname_odd x
theorem pname_odd : SumOk Tryd.prog gl 80 sname_odd := qname_odd
theorem aQname_odd : AllOk Qname_odd := .cons pname_odd aQslices_Index_string_string
theorem wslices_ContainsFunc_byte_byteO (l : List Int) : Owes Tryd.prog (cfgOf Qname_odd) (Lslices_ContainsFunc_byte_byteO l) 79 (arslices_ContainsFunc_byte_byteO l) (esslices_ContainsFunc_byte_byteO l) (dslices_ContainsFunc_byte_byteO l) = vcslices_ContainsFunc_byte_byteO l := by kernel_rfl
theorem qslices_ContainsFunc_byte_byte : GenOk Tryd.prog gl 79 Fslices_ContainsFunc_byte_byte := by
  refine pkg (l := Qname_odd) aQname_odd (fun args es d h => ?_) (fun args es d h hv he hp => ?_)
  · unfold Fslices_ContainsFunc_byte_byte at h
    rcases orE_some h with h | h
    · obtain ⟨l, rfl, rfl, rfl⟩ := alslices_ContainsFunc_byte_byteO_eq h
      rfl
    cases h
  · unfold Fslices_ContainsFunc_byte_byte at h
    rcases orE_some h with h | h
    · obtain ⟨l, rfl, rfl, rfl⟩ := alslices_ContainsFunc_byte_byteO_eq h
      refine ⟨Lslices_ContainsFunc_byte_byteO l, ?_⟩
      rw [wslices_ContainsFunc_byte_byteO]
      exact okslices_ContainsFunc_byte_byteO l (he _ (.head _)).2
    cases h
theorem pslices_ContainsFunc_byte_byte : SumOk Tryd.prog gl 79 sslices_ContainsFunc_byte_byte := qslices_ContainsFunc_byte_byte
theorem aQslices_ContainsFunc_byte_byte : AllOk Qslices_ContainsFunc_byte_byte := .cons pslices_ContainsFunc_byte_byte aQname_odd
theorem wname_formed (x : DenL [.str]) : Owes Tryd.prog (cfgOf Qslices_ContainsFunc_byte_byte) (Lname_formed x) 72 (argVs [.str] x) [] (dname_formed x) = vcname_formed x := by kernel_rfl
theorem qname_formed : Pok 72 [.str] (fun x => dname_formed x) := by
  refine pk (L := fun x => Lname_formed x) (l := Qslices_ContainsFunc_byte_byte) aQslices_ContainsFunc_byte_byte (fun _ => rfl) ?_
  intro x hv hp
  rw [wname_formed]
  exact okname_formed x (hp (List.length x ≤ 1000000000000) (by simp [dname_formed]))
theorem pname_formed : SumOk Tryd.prog gl 72 sname_formed := qname_formed
theorem aQname_formed : AllOk Qname_formed := .cons pname_formed aQslices_ContainsFunc_byte_byte
theorem wname_Clean (x : DenL [.str]) : Owes Tryd.prog (cfgOf Qname_formed) (Lname_Clean x) 67 (argVs [.str] x) [] (dname_Clean x) = vcname_Clean x := by kernel_rfl
theorem qname_Clean : Pok 67 [.str] (fun x => dname_Clean x) := by
  refine pk (L := fun x => Lname_Clean x) (l := Qname_formed) aQname_formed (fun _ => rfl) ?_
  intro x hv hp
  rw [wname_Clean]
  exact okname_Clean x hv.1 (hp (List.length x ≤ 1000000000000) (by simp [dname_Clean]))
theorem pname_Clean : SumOk Tryd.prog gl 67 sname_Clean := qname_Clean
theorem aQname_Clean : AllOk Qname_Clean := .cons pname_Clean aQname_formed
theorem wname_Right (x : DenL [.str]) : Owes Tryd.prog (cfgOf Qname_Clean) (Lname_Right x) 58 (argVs [.str] x) [] (dname_Right x) = vcname_Right x := by kernel_rfl
theorem qname_Right : Pok 58 [.str] (fun x => dname_Right x) := by
  refine pk (L := fun x => Lname_Right x) (l := Qname_Clean) aQname_Clean (fun _ => rfl) ?_
  intro x hv hp
  rw [wname_Right]
  exact okname_Right x (hp (List.length x ≤ 1000000000000) (by simp [dname_Right]))
theorem pname_Right : SumOk Tryd.prog gl 58 sname_Right := qname_Right
theorem aQname_Right : AllOk Qname_Right := .cons pname_Right aQname_Clean
end Go.Proofs.YtllmhikoaklpbaaDoor
