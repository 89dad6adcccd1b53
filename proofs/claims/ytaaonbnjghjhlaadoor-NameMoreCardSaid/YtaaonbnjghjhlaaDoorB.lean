/- What functions of this seat compute, in plain Lean. -/
import Derived.Test.YtaaonbnjghjhlaaDoorA
set_option linter.unusedVariables false
set_option linter.unusedSimpArgs false
set_option maxRecDepth 100000
namespace Go.Proofs.YtaaonbnjghjhlaaDoor
open Go.Vc
namespace U
def oddB (c : Int) : Bool := decide (c ≤ 32) || (decide (c > 126) || decide (idxB [40, 41, 123, 37, 42, 34, 92] c ≥ 0))
def wildB (c : Int) : Bool := decide (c = 42) || decide (c = 37)
def patB (c : Int) : Bool := oddB c && !wildB c
def idxP (p : Int → Bool) : List Int → Int → Int
  | [], _ => -1
  | x :: r, i => if p x then i else idxP p r (i + 1)
end U
namespace U
def formedN (s : List Int) : Bool := decide (s.length ≤ 40) && (decide ((split 47 s).length ≤ 4) && (decide (idxS [] (split 47 s) 0 < 0) && decide (idxP oddB s 0 < 0)))
end U
namespace U
def inboxL : List Int := [73, 78, 66, 79, 88]
def firstN (s : List Int) : List Int := cond (decide (idxB s 47 ≥ 0)) (s.take (idxB s 47).toNat) s
def restN (s : List Int) : List Int := cond (decide (idxB s 47 ≥ 0)) (47 :: s.drop ((idxB s 47).toNat + 1)) []
def cleanN (s : List Int) : List Int × Int := cond (formedN s) ((cond (decide ((firstN s).map lowB = inboxL.map lowB)) inboxL (firstN s)) ++ restN s, 0) ([], 3)
def rightN (s : List Int) : Bool := decide ((cleanN s).2 = 0) && decide ((cleanN s).1 = s)
def aboveFrom (s : List Int) : Nat → List (List Int)
  | 0 => []
  | i + 1 => aboveFrom s i ++ cond (decide (s.getD i 0 = 47)) [s.take i] []
def aboveN (s : List Int) : List (List Int) := cond (rightN s) (aboveFrom s s.length) []
def belowN (s top : List Int) : Bool := decide (idxS top (aboveN s) 0 ≥ 0)
def patternN (s : List Int) : Bool := decide (s.length ≤ 80) && decide (idxP patB s 0 < 0)
def anySuf (f : List Int → Bool) : List Int → Bool
  | [] => f []
  | x :: s => f (x :: s) || anySuf f s
def anyRun (f : List Int → Bool) : List Int → Bool
  | [] => f []
  | x :: s => f (x :: s) || (decide (x ≠ 47) && anyRun f s)
def matchP : List Int → List Int → Bool
  | [], s => s.isEmpty
  | c :: p, s => cond (decide (c = 42)) (anySuf (matchP p) s) (cond (decide (c = 37)) (anyRun (matchP p) s) (match s with | [] => false | x :: r => decide (c = x) && matchP p r))
def mAt (p s : List Int) (i j : Int) : Bool := matchP (p.drop i.toNat) (s.drop j.toNat)
/-- from x at d on, plain bytes alone have been passed: up to i at j -/
def litI (p s : List Int) (x d i j : Int) : Prop :=
  d ≤ j ∧ ∀ k : Int, 0 ≤ k → k ≤ s.length → mAt p s x k = true → k + (j - d) ≤ s.length ∧ mAt p s i (k + (j - d)) = true ∧ ∀ n : Int, 0 ≤ n → n < j - d → s.getD (k + n).toNat 0 = s.getD (d + n).toNat 0
/-- what may still match, where star, part and place are told -/
def likeI (p s : List Int) (a b c d i j : Int) : Prop :=
  (0 ≤ i ∧ i ≤ p.length ∧ 0 ≤ j ∧ j ≤ s.length ∧ -1 ≤ a ∧ a < i ∧ 0 ≤ b ∧ b ≤ j ∧ -1 ≤ c ∧ c < i ∧ 0 ≤ d ∧ d ≤ j ∧ (c < 0 → d = 0) ∧ (c ≥ 0 → a < c ∧ b ≤ d) ∧
  (a ≥ 0 → p.getD a.toNat 0 = 42) ∧ (c ≥ 0 → p.getD c.toNat 0 = 37)) ∧
  (c ≥ 0 → litI p s (c + 1) d i j) ∧ (a ≥ 0 → c < 0 → litI p s (a + 1) b i j) ∧
  (a ≥ 0 → c ≥ 0 → ∀ t : Int, b ≤ t → t ≤ s.length → mAt p s (a + 1) t = true → ∃ k : Int, d ≤ k ∧ k ≤ s.length ∧ mAt p s (c + 1) k = true) ∧
  (matchP p s = true ↔ mAt p s i j = true ∨ (c ≥ 0 ∧ d < s.length ∧ s.getD d.toNat 0 ≠ 47 ∧ mAt p s c (d + 1) = true) ∨ (a ≥ 0 ∧ b < s.length ∧ mAt p s a (b + 1) = true))
def likeN (p s : List Int) : Bool := patternN p && (rightN s && matchP p s)
def joinN (b p : List Int) : List Int × Int := cond (patternN (b ++ p)) (b ++ p, 0) ([], 3)
end U
abbrev rSE (x : List Int × Int) : SV := .tup [one (.str x.1), one (.int .i64 x.2)]
namespace U
def stIndexFuncO (l : List Int) (i : Int) : St2 := ⟨⟨[own 0] ++ [sF 32 []] ++ U.n 5 ++ [sI l.length] ++ [sI i] ++ U.n 10, [], [(0, .row 5 (.int .u8) true false l)]⟩, 1, []⟩
def IIndexFuncO (l : List Int)  (i : Int) : Prop := at_ l i ∧ idxP oddB (l.drop i.toNat) i = idxP oddB l 0
def stIndexFuncP (l : List Int) (i : Int) : St2 := ⟨⟨[own 0] ++ [sF 39 [1]] ++ U.n 5 ++ [sI l.length] ++ [sI i] ++ U.n 10, [], [(0, .row 5 (.int .u8) true false l), (1, .obj [.fn 38 []])]⟩, 2, []⟩
def IIndexFuncP (l : List Int)  (i : Int) : Prop := at_ l i ∧ idxP patB (l.drop i.toNat) i = idxP patB l 0
def stname_Above_5 (s : List Int) (o : List (List Int)) (i : Int) : St2 := ⟨⟨[sS s] ++ U.n 2 ++ [own 0] ++ U.n 5 ++ [sI s.length] ++ [sI i] ++ U.n 16, [], [(0, .row 9 .str true true o)]⟩, 1, []⟩
def Iname_Above_5 (s : List Int)  (o : List (List Int)) (i : Int) : Prop := at_ s i ∧ o = aboveFrom s i.toNat ∧ o.length ≤ i
def stname_like_3 (p s : List Int) (a : Int) (b : Int) (c : Int) (d : Int) (i : Int) (j : Int) : St2 := ⟨⟨[sS p] ++ [sS s] ++ U.n 3 ++ [sP 0 0] ++ [sP 1 0] ++ [sP 2 0] ++ U.n 133, [], [(0, .obj [.int .i64 a, .int .i64 b]), (1, .obj [.int .i64 c, .int .i64 d]), (2, .obj [.int .i64 i, .int .i64 j])]⟩, 3, []⟩
def Iname_like_3 (p s : List Int)  (a : Int) (b : Int) (c : Int) (d : Int) (i : Int) (j : Int) : Prop := p.length ≤ 80 ∧ s.length ≤ 40 ∧ likeI p s a b c d i j
end U
def lpIndexFuncO (l : List Int) : Vc.Loop := ⟨{ keep := [0, 1, 7, 8] }, Int, fun x => U.stIndexFuncO l x, fun x0 x => U.IIndexFuncO l  x, fun x => l.length - x.toNat⟩
def lpIndexFuncP (l : List Int) : Vc.Loop := ⟨{ keep := [0, 1, 7, 8] }, Int, fun x => U.stIndexFuncP l x, fun x0 x => U.IIndexFuncP l  x, fun x => l.length - x.toNat⟩
def lpname_Above_5 (s : List Int) : Vc.Loop := ⟨{ keep := [0, 3, 9, 10], wake := [(3, 9)] }, List (List Int) × Int, fun x => U.stname_Above_5 s x.1 x.2, fun x0 x => U.Iname_Above_5 s  x.1 x.2, fun x => s.length - x.2.toNat⟩
def lpname_like_3 (p s : List Int) : Vc.Loop := ⟨{ keep := [0, 1, 5, 6, 7] }, Int × Int × Int × Int × Int × Int, fun x => U.stname_like_3 p s x.1 x.2.1 x.2.2.1 x.2.2.2.1 x.2.2.2.2.1 x.2.2.2.2.2, fun x0 x => U.Iname_like_3 p s  x.1 x.2.1 x.2.2.1 x.2.2.2.1 x.2.2.2.2.1 x.2.2.2.2.2, fun x => ((((((p.length : Int) - x.1) * 100 + ((s.length : Int) - x.2.1)) * 100 + ((p.length : Int) - x.2.2.1)) * 100 + ((s.length : Int) - x.2.2.2.1)) * 100 + ((p.length : Int) - x.2.2.2.2.1)).toNat⟩
def dname_odd (c : Int) : Done := rB (U.oddB c)
def sname_odd : Vc.Sum := .pure [.int .u8] false fun x => dname_odd x
def Lname_odd (c : Int) : Nat → List V → Nat → Option Vc.Loop := noKeep
def Qname_odd : List (Nat × Ent) := (32, .sum sname_odd) :: Qslices_Index_string_string
def dname_pattern_1 (c : Int) : Done := rB (U.wildB c)
def sname_pattern_1 : Vc.Sum := .pure [.int .u8] false fun x => dname_pattern_1 x
def Lname_pattern_1 (c : Int) : Nat → List V → Nat → Option Vc.Loop := noKeep
def Qname_pattern_1 : List (Nat × Ent) := (38, .sum sname_pattern_1) :: Qname_odd
def dslices_ContainsFunc_byte_byteO (l : List Int) : Done := ⟨[], .one (.bool (decide (U.idxP U.oddB l 0 ≥ 0))), [.dead], []⟩
def arslices_ContainsFunc_byte_byteO (l : List Int) : List V := [⟨false, [.own 0]⟩, ⟨false, [.fn 32 []]⟩]
def esslices_ContainsFunc_byte_byteO (l : List Int) : List Entry := [.row 5 (.int .u8) true false l]
def Lslices_ContainsFunc_byte_byteO (l : List Int) : Nat → List V → Nat → Option Vc.Loop := fun f v k => cond (Nat.beq f 41 && Nat.beq k 2) (some (lpIndexFuncO l)) <| none
def alslices_ContainsFunc_byte_byteO : List V → List Entry → Option Done
  | [⟨false, [.own n1]⟩, ⟨false, [.fn n2 []]⟩], [.row n3 (.int .u8) true false l] => cond (Nat.beq n1 0 && Nat.beq n2 32 && Nat.beq n3 5) (some (dslices_ContainsFunc_byte_byteO l)) none
  | _, _ => none
theorem alslices_ContainsFunc_byte_byteO_eq {args : List V} {es : List Entry} {d : Done} (h : alslices_ContainsFunc_byte_byteO args es = some d) : ∃ l, args = arslices_ContainsFunc_byte_byteO l ∧ es = esslices_ContainsFunc_byte_byteO l ∧ d = dslices_ContainsFunc_byte_byteO l := by
  unfold alslices_ContainsFunc_byte_byteO at h
  split at h
  · obtain ⟨hb, hd⟩ := cond_some h; simp only [Bool.and_eq_true, Nat.beq_eq] at hb; (try obtain ⟨⟨rfl, rfl⟩, rfl⟩ := hb); subst hd; (try subst_vars); exact ⟨_, rfl, rfl, rfl⟩
  · cases h
def dslices_ContainsFunc_byte_byteP (l : List Int) : Done := ⟨[], .one (.bool (decide (U.idxP U.patB l 0 ≥ 0))), [.dead, .dead], []⟩
def arslices_ContainsFunc_byte_byteP (l : List Int) : List V := [⟨false, [.own 0]⟩, ⟨false, [.fn 39 [1]]⟩]
def esslices_ContainsFunc_byte_byteP (l : List Int) : List Entry := [.row 5 (.int .u8) true false l, .obj [.fn 38 []]]
def Lslices_ContainsFunc_byte_byteP (l : List Int) : Nat → List V → Nat → Option Vc.Loop := fun f v k => cond (Nat.beq f 41 && Nat.beq k 2) (some (lpIndexFuncP l)) <| none
def alslices_ContainsFunc_byte_byteP : List V → List Entry → Option Done
  | [⟨false, [.own n1]⟩, ⟨false, [.fn n2 [n3]]⟩], [.row n4 (.int .u8) true false l, .obj [.fn n5 []]] => cond (Nat.beq n1 0 && Nat.beq n2 39 && Nat.beq n3 1 && Nat.beq n4 5 && Nat.beq n5 38) (some (dslices_ContainsFunc_byte_byteP l)) none
  | _, _ => none
theorem alslices_ContainsFunc_byte_byteP_eq {args : List V} {es : List Entry} {d : Done} (h : alslices_ContainsFunc_byte_byteP args es = some d) : ∃ l, args = arslices_ContainsFunc_byte_byteP l ∧ es = esslices_ContainsFunc_byte_byteP l ∧ d = dslices_ContainsFunc_byte_byteP l := by
  unfold alslices_ContainsFunc_byte_byteP at h
  split at h
  · obtain ⟨hb, hd⟩ := cond_some h; simp only [Bool.and_eq_true, Nat.beq_eq] at hb; (try obtain ⟨⟨⟨⟨rfl, rfl⟩, rfl⟩, rfl⟩, rfl⟩ := hb); subst hd; (try subst_vars); exact ⟨_, rfl, rfl, rfl⟩
  · cases h
def Fslices_ContainsFunc_byte_byte (args : List V) (es : List Entry) : Option Done := orE (alslices_ContainsFunc_byte_byteO args es) (orE (alslices_ContainsFunc_byte_byteP args es) (none))
def sslices_ContainsFunc_byte_byte : Vc.Sum := .gen Fslices_ContainsFunc_byte_byte
def Qslices_ContainsFunc_byte_byte : List (Nat × Ent) := (31, .sum sslices_ContainsFunc_byte_byte) :: Qname_pattern_1
def dname_formed (s : List Int) : Done := ⟨[s.length ≤ 1000000000000], .one (.bool (U.formedN s)), [], []⟩
def sname_formed : Vc.Sum := .pure [.str] false fun x => dname_formed x
def Lname_formed (s : List Int) : Nat → List V → Nat → Option Vc.Loop := noKeep
def Qname_formed : List (Nat × Ent) := (21, .sum sname_formed) :: Qslices_ContainsFunc_byte_byte
def dname_Clean (s : List Int) : Done := ⟨[s.length ≤ 1000000000000], rSE (U.cleanN s), [], []⟩
def sname_Clean : Vc.Sum := .pure [.str] false fun x => dname_Clean x
def Lname_Clean (s : List Int) : Nat → List V → Nat → Option Vc.Loop := noKeep
def Qname_Clean : List (Nat × Ent) := (8, .sum sname_Clean) :: Qname_formed
def dname_Right (s : List Int) : Done := ⟨[s.length ≤ 1000000000000], .one (.bool (U.rightN s)), [], []⟩
def sname_Right : Vc.Sum := .pure [.str] false fun x => dname_Right x
def Lname_Right (s : List Int) : Nat → List V → Nat → Option Vc.Loop := noKeep
def Qname_Right : List (Nat × Ent) := (10, .sum sname_Right) :: Qname_Clean
def dname_Above (s : List Int) : Done := ⟨[s.length ≤ 1000000000000], .one (.psl true .str (U.aboveN s)), [], []⟩
def sname_Above : Vc.Sum := .pure [.str] false fun x => dname_Above x
def Lname_Above (s : List Int) : Nat → List V → Nat → Option Vc.Loop := fun f v k => cond (Nat.beq f 13 && Nat.beq k 5) (some (lpname_Above_5 s)) <| none
def Qname_Above : List (Nat × Ent) := (13, .sum sname_Above) :: Qname_Right
def dname_Below (s : List Int) (t : List Int) : Done := ⟨[s.length ≤ 1000000000000], .one (.bool (U.belowN s t)), [], []⟩
def sname_Below : Vc.Sum := .pure [.str, .str] false fun x => dname_Below x.1 x.2
def Lname_Below (s : List Int) (t : List Int) : Nat → List V → Nat → Option Vc.Loop := noKeep
def Qname_Below : List (Nat × Ent) := (15, .sum sname_Below) :: Qname_Above
def dname_pattern (s : List Int) : Done := ⟨[s.length ≤ 1000000000000], .one (.bool (U.patternN s)), [], []⟩
def sname_pattern : Vc.Sum := .pure [.str] false fun x => dname_pattern x
def Lname_pattern (s : List Int) : Nat → List V → Nat → Option Vc.Loop := noKeep
def Qname_pattern : List (Nat × Ent) := (26, .sum sname_pattern) :: Qname_Below
def dname_like (p : List Int) (s : List Int) : Done := ⟨[p.length ≤ 80, s.length ≤ 40], .one (.bool (U.matchP p s)), [], []⟩
def sname_like : Vc.Sum := .pure [.str, .str] false fun x => dname_like x.1 x.2
def Lname_like (p : List Int) (s : List Int) : Nat → List V → Nat → Option Vc.Loop := fun f v k => cond (Nat.beq f 27 && Nat.beq k 3) (some (lpname_like_3 p s)) <| none
def Qname_like : List (Nat × Ent) := (27, .sum sname_like) :: Qname_pattern
def dname_Like (p : List Int) (s : List Int) : Done := ⟨[p.length ≤ 1000000000000, s.length ≤ 1000000000000], .one (.bool (U.likeN p s)), [], []⟩
def sname_Like : Vc.Sum := .pure [.str, .str] false fun x => dname_Like x.1 x.2
def Lname_Like (p : List Int) (s : List Int) : Nat → List V → Nat → Option Vc.Loop := noKeep
def Qname_Like : List (Nat × Ent) := (17, .sum sname_Like) :: Qname_like
def dname_Join (p : List Int) (s : List Int) : Done := ⟨[p.length ≤ 500000000000, s.length ≤ 500000000000], rSE (U.joinN p s), [], []⟩
def sname_Join : Vc.Sum := .pure [.str, .str] false fun x => dname_Join x.1 x.2
def Lname_Join (p : List Int) (s : List Int) : Nat → List V → Nat → Option Vc.Loop := noKeep
def Qname_Join : List (Nat × Ent) := (18, .sum sname_Join) :: Qname_Like
end Go.Proofs.YtaaonbnjghjhlaaDoor
/- What is owed of the functions, in plain Lean (printed by a program of this project). -/
set_option maxRecDepth 100000
set_option linter.unusedVariables false
namespace Go.Proofs.YtaaonbnjghjhlaaDoor
open Go.Vc
def vcname_odd (c : Int) : Prop :=
  (bif bif decide (c ≤ (32 : Int)) then true else decide (c > (126 : Int)) then true
      else
        decide
          (idxB
              [(40 : Int), (41 : Int),
                (123 : Int), (37 : Int),
                (42 : Int), (34 : Int),
                (92 : Int)]
              c ≥
            (0 : Int))) =
      U.oddB c ∧
    True
def vcname_pattern_1 (c : Int) : Prop := (bif decide (c = (42 : Int)) then true else decide (c = (37 : Int))) = U.wildB c ∧ True
def vcslices_ContainsFunc_byte_byteO (l : List Int) : Prop :=
  ∃ (x0 : Int),
    (U.stIndexFuncO l (0 : Int) = U.stIndexFuncO l x0 ∧ U.IIndexFuncO l x0) ∧
      ∀ (x : Int),
        U.IIndexFuncO l x →
          bif decide (x < (↑l.length : Int)) then
            (0 : Int) ≤ x ∧
              x < (↑l.length : Int) ∧
                x.toNat < l.length ∧
                  bif U.oddB (l.getD x.toNat (0 : Int)) then
                    decide (x ≥ (0 : Int)) = decide (U.idxP U.oddB l (0 : Int) ≥ (0 : Int)) ∧ True
                  else
                    ∃ (y : Int),
                      U.stIndexFuncO l (IntKind.i64.wrap (x.add (1 : Int))) = U.stIndexFuncO l y ∧
                        U.IIndexFuncO l y ∧ l.length.sub y.toNat < l.length.sub x.toNat
          else decide ((-1 : Int) ≥ (0 : Int)) = decide (U.idxP U.oddB l (0 : Int) ≥ (0 : Int)) ∧ True
def vcslices_ContainsFunc_byte_byteP (l : List Int) : Prop :=
  ∃ (x0 : Int),
    (U.stIndexFuncP l (0 : Int) = U.stIndexFuncP l x0 ∧ U.IIndexFuncP l x0) ∧
      ∀ (x : Int),
        U.IIndexFuncP l x →
          bif decide (x < (↑l.length : Int)) then
            (0 : Int) ≤ x ∧
              x < (↑l.length : Int) ∧
                x.toNat < l.length ∧
                  bif bif U.oddB (l.getD x.toNat (0 : Int)) then !U.wildB (l.getD x.toNat (0 : Int)) else false then
                    decide (x ≥ (0 : Int)) = decide (U.idxP U.patB l (0 : Int) ≥ (0 : Int)) ∧ True
                  else
                    ∃ (y : Int),
                      U.stIndexFuncP l (IntKind.i64.wrap (x.add (1 : Int))) = U.stIndexFuncP l y ∧
                        U.IIndexFuncP l y ∧ l.length.sub y.toNat < l.length.sub x.toNat
          else decide ((-1 : Int) ≥ (0 : Int)) = decide (U.idxP U.patB l (0 : Int) ≥ (0 : Int)) ∧ True
def vcname_formed (s : List Int) : Prop :=
  (1 : Nat) = (1 : Nat) ∧
    (0 : Int) = (0 : Int) ∧
      (-1 : Int) = (-1 : Int) ∧
        s.length ≤ (1000000000000 : Nat) ∧
          bif
              bif decide ((↑s.length : Int) ≤ (40 : Int)) then
                decide
                  ((↑(U.split ([(47 : Int)].getD (0 : Nat) (0 : Int)) s).length : Int) ≤
                    (4 : Int))
              else false then
            bif
                !decide
                    (U.idxS [] (U.split ([(47 : Int)].getD (0 : Nat) (0 : Int)) s) (0 : Int) ≥
                      (0 : Int)) then
              (!decide (U.idxP U.oddB s (0 : Int) ≥ (0 : Int))) = U.formedN s ∧ True
            else false = U.formedN s ∧ True
          else false = U.formedN s ∧ True
def vcname_Clean (s : List Int) : Prop :=
  s.length ≤ (1000000000000 : Nat) ∧
    bif !U.formedN s then [] = (U.cleanN s).fst ∧ (3 : Int) = (U.cleanN s).snd ∧ True
    else
      (1 : Nat) = (1 : Nat) ∧
        bif decide (idxB s ([(47 : Int)].getD (0 : Nat) (0 : Int)) ≥ (0 : Int)) then
          (0 : Int) ≤ (0 : Int) ∧
            (0 : Int) ≤ idxB s ([(47 : Int)].getD (0 : Nat) (0 : Int)) ∧
              idxB s ([(47 : Int)].getD (0 : Nat) (0 : Int)) ≤ (↑s.length : Int) ∧
                (0 : Int) ≤
                    IntKind.i64.wrap
                      ((idxB s ([(47 : Int)].getD (0 : Nat) (0 : Int))).add
                        (↑((1 : Nat)) : Int)) ∧
                  IntKind.i64.wrap
                        ((idxB s ([(47 : Int)].getD (0 : Nat) (0 : Int))).add
                          (↑((1 : Nat)) : Int)) ≤
                      (↑s.length : Int) ∧
                    (↑s.length : Int) ≤ (↑s.length : Int) ∧
                      ((∀ (x : Int),
                            List.Mem x
                                (List.take
                                  ((idxB s ([(47 : Int)].getD (0 : Nat) (0 : Int))).toNat.sub
                                    (0 : Nat))
                                  (List.drop (0 : Nat) s)) →
                              x < (128 : Int)) ∧
                          (∀ (x : Int),
                              List.Mem x
                                  [(73 : Int), (78 : Int),
                                    (66 : Int), (79 : Int),
                                    (88 : Int)] →
                                x < (128 : Int)) ∧
                            (List.take
                                  ((idxB s ([(47 : Int)].getD (0 : Nat) (0 : Int))).toNat.sub
                                    (0 : Nat))
                                  (List.drop (0 : Nat) s)).length ≤
                              (4000000000 : Nat)) ∧
                        bif
                            decide
                              (List.map
                                  (fun (x : Int) => if (65 : Int) ≤ x ∧ x ≤ (90 : Int) then x.add (32 : Int) else x)
                                  (List.take
                                    ((idxB s ([(47 : Int)].getD (0 : Nat) (0 : Int))).toNat.sub
                                      (0 : Nat))
                                    (List.drop (0 : Nat) s)) =
                                [(73 : Int).add (32 : Int),
                                  (78 : Int).add (32 : Int),
                                  (66 : Int).add (32 : Int),
                                  (79 : Int).add (32 : Int),
                                  (88 : Int).add (32 : Int)]) then
                          Nat.add ((1 : Nat))
                                (List.take
                                    ((↑s.length : Int).toNat.sub
                                      (IntKind.i64.wrap
                                          ((idxB s ([(47 : Int)].getD (0 : Nat) (0 : Int))).add
                                            (↑((1 : Nat)) : Int))).toNat)
                                    (List.drop
                                      (IntKind.i64.wrap
                                          ((idxB s ([(47 : Int)].getD (0 : Nat) (0 : Int))).add
                                            (↑((1 : Nat)) : Int))).toNat
                                      s)).length ≤
                              (9223372036854775807 : Nat) ∧
                            Nat.add ((5 : Nat))
                                  ((List.take
                                          ((↑s.length : Int).toNat.sub
                                            (IntKind.i64.wrap
                                                ((idxB s
                                                      ([(47 : Int)].getD (0 : Nat)
                                                        (0 : Int))).add
                                                  (↑((1 : Nat)) : Int))).toNat)
                                          (List.drop
                                            (IntKind.i64.wrap
                                                ((idxB s
                                                      ([(47 : Int)].getD (0 : Nat)
                                                        (0 : Int))).add
                                                  (↑((1 : Nat)) : Int))).toNat
                                            s)).length.add
                                    (1 : Nat)) ≤
                                (9223372036854775807 : Nat) ∧
                              (73 : Int) ::
                                    (78 : Int) ::
                                      (66 : Int) ::
                                        (79 : Int) ::
                                          (88 : Int) ::
                                            (47 : Int) ::
                                              List.take
                                                ((↑s.length : Int).toNat.sub
                                                  (IntKind.i64.wrap
                                                      ((idxB s
                                                            ([(47 : Int)].getD (0 : Nat)
                                                              (0 : Int))).add
                                                        (↑((1 : Nat)) : Int))).toNat)
                                                (List.drop
                                                  (IntKind.i64.wrap
                                                      ((idxB s
                                                            ([(47 : Int)].getD (0 : Nat)
                                                              (0 : Int))).add
                                                        (↑((1 : Nat)) : Int))).toNat
                                                  s) =
                                  (U.cleanN s).fst ∧
                                (0 : Int) = (U.cleanN s).snd ∧ True
                        else
                          Nat.add ((1 : Nat))
                                (List.take
                                    ((↑s.length : Int).toNat.sub
                                      (IntKind.i64.wrap
                                          ((idxB s ([(47 : Int)].getD (0 : Nat) (0 : Int))).add
                                            (↑((1 : Nat)) : Int))).toNat)
                                    (List.drop
                                      (IntKind.i64.wrap
                                          ((idxB s ([(47 : Int)].getD (0 : Nat) (0 : Int))).add
                                            (↑((1 : Nat)) : Int))).toNat
                                      s)).length ≤
                              (9223372036854775807 : Nat) ∧
                            (List.take
                                        ((idxB s
                                                ([(47 : Int)].getD (0 : Nat)
                                                  (0 : Int))).toNat.sub
                                          (0 : Nat))
                                        (List.drop (0 : Nat) s)).length.add
                                  ((List.take
                                          ((↑s.length : Int).toNat.sub
                                            (IntKind.i64.wrap
                                                ((idxB s
                                                      ([(47 : Int)].getD (0 : Nat)
                                                        (0 : Int))).add
                                                  (↑((1 : Nat)) : Int))).toNat)
                                          (List.drop
                                            (IntKind.i64.wrap
                                                ((idxB s
                                                      ([(47 : Int)].getD (0 : Nat)
                                                        (0 : Int))).add
                                                  (↑((1 : Nat)) : Int))).toNat
                                            s)).length.add
                                    (1 : Nat)) ≤
                                (9223372036854775807 : Nat) ∧
                              (List.take
                                        ((idxB s
                                                ([(47 : Int)].getD (0 : Nat)
                                                  (0 : Int))).toNat.sub
                                          (0 : Nat))
                                        (List.drop (0 : Nat) s)).append
                                    ((47 : Int) ::
                                      List.take
                                        ((↑s.length : Int).toNat.sub
                                          (IntKind.i64.wrap
                                              ((idxB s
                                                    ([(47 : Int)].getD (0 : Nat)
                                                      (0 : Int))).add
                                                (↑((1 : Nat)) : Int))).toNat)
                                        (List.drop
                                          (IntKind.i64.wrap
                                              ((idxB s
                                                    ([(47 : Int)].getD (0 : Nat)
                                                      (0 : Int))).add
                                                (↑((1 : Nat)) : Int))).toNat
                                          s)) =
                                  (U.cleanN s).fst ∧
                                (0 : Int) = (U.cleanN s).snd ∧ True
        else
          ((∀ (x : Int), List.Mem x s → x < (128 : Int)) ∧
              (∀ (x : Int),
                  List.Mem x
                      [(73 : Int), (78 : Int),
                        (66 : Int), (79 : Int),
                        (88 : Int)] →
                    x < (128 : Int)) ∧
                s.length ≤ (4000000000 : Nat)) ∧
            bif
                decide
                  (List.map (fun (x : Int) => if (65 : Int) ≤ x ∧ x ≤ (90 : Int) then x.add (32 : Int) else x) s =
                    [(73 : Int).add (32 : Int),
                      (78 : Int).add (32 : Int),
                      (66 : Int).add (32 : Int),
                      (79 : Int).add (32 : Int),
                      (88 : Int).add (32 : Int)]) then
              [(73 : Int), (78 : Int),
                    (66 : Int), (79 : Int),
                    (88 : Int)] =
                  (U.cleanN s).fst ∧
                (0 : Int) = (U.cleanN s).snd ∧ True
            else s = (U.cleanN s).fst ∧ (0 : Int) = (U.cleanN s).snd ∧ True
def vcname_Right (s : List Int) : Prop :=
  s.length ≤ (1000000000000 : Nat) ∧
    (bif decide ((U.cleanN s).snd = (0 : Int)) then (U.cleanN s).fst.beq s else false) = U.rightN s ∧ True
def vcname_Above (s : List Int) : Prop :=
  s.length ≤ (1000000000000 : Nat) ∧
    bif !U.rightN s then [] = U.aboveN s ∧ True
    else
      ∃ (x0 : List (List Int) × Int),
        (U.stname_Above_5 s [] (0 : Int) = U.stname_Above_5 s x0.fst x0.snd ∧ U.Iname_Above_5 s x0.fst x0.snd) ∧
          ∀ (x : List (List Int) × Int),
            U.Iname_Above_5 s x.fst x.snd →
              bif decide (x.snd < (↑s.length : Int)) then
                (0 : Int) ≤ x.snd ∧
                  x.snd ≤ IntKind.i64.wrap (x.snd.add (1 : Int)) ∧
                    IntKind.i64.wrap (x.snd.add (1 : Int)) ≤ (↑s.length : Int) ∧
                      bif
                          (List.take ((IntKind.i64.wrap (x.snd.add (1 : Int))).toNat.sub x.snd.toNat)
                                (List.drop x.snd.toNat s)).beq
                            [(47 : Int)] then
                        (0 : Int) ≤ (0 : Int) ∧
                          (0 : Int) ≤ x.snd ∧
                            x.snd ≤ (↑s.length : Int) ∧
                              (x.fst.length.add ((1 : Nat))).mul (16 : Nat) ≤ (140737488355328 : Nat) ∧
                                x.fst.length.add ((1 : Nat)) ≤ maxLen ∧
                                  ∃ (y : List (List Int) × Int),
                                    U.stname_Above_5 s
                                          (x.fst.append
                                            ([[]].set (0 : Nat)
                                              (List.take (x.snd.toNat.sub (0 : Nat))
                                                (List.drop (0 : Nat) s))))
                                          (IntKind.i64.wrap (x.snd.add (1 : Int))) =
                                        U.stname_Above_5 s y.fst y.snd ∧
                                      U.Iname_Above_5 s y.fst y.snd ∧
                                        s.length.sub y.snd.toNat < s.length.sub x.snd.toNat
                      else
                        ∃ (y : List (List Int) × Int),
                          U.stname_Above_5 s x.fst (IntKind.i64.wrap (x.snd.add (1 : Int))) =
                              U.stname_Above_5 s y.fst y.snd ∧
                            U.Iname_Above_5 s y.fst y.snd ∧ s.length.sub y.snd.toNat < s.length.sub x.snd.toNat
              else x.fst = U.aboveN s ∧ True
def vcname_Below (s : List Int) (t : List Int) : Prop :=
  s.length ≤ (1000000000000 : Nat) ∧ decide (U.idxS t (U.aboveN s) (0 : Int) ≥ (0 : Int)) = U.belowN s t ∧ True
def vcname_pattern (s : List Int) : Prop :=
  bif decide ((↑s.length : Int) ≤ (80 : Int)) then
    (!decide (U.idxP U.patB s (0 : Int) ≥ (0 : Int))) = U.patternN s ∧ True
  else false = U.patternN s ∧ True
def vcname_like (p : List Int) (s : List Int) : Prop :=
  ∃ (x0 : Int × Int × Int × Int × Int × Int),
    (U.stname_like_3 p s (-1 : Int) (0 : Int) (-1 : Int) (0 : Int) (0 : Int) (0 : Int) =
          U.stname_like_3 p s x0.fst x0.snd.fst x0.snd.snd.fst x0.snd.snd.snd.fst x0.snd.snd.snd.snd.fst
            x0.snd.snd.snd.snd.snd ∧
        U.Iname_like_3 p s x0.fst x0.snd.fst x0.snd.snd.fst x0.snd.snd.snd.fst x0.snd.snd.snd.snd.fst
          x0.snd.snd.snd.snd.snd) ∧
      ∀ (x : Int × Int × Int × Int × Int × Int),
        U.Iname_like_3 p s x.fst x.snd.fst x.snd.snd.fst x.snd.snd.snd.fst x.snd.snd.snd.snd.fst x.snd.snd.snd.snd.snd →
          bif
              bif decide (x.snd.snd.snd.snd.snd < (↑s.length : Int)) then true
              else decide (x.snd.snd.snd.snd.fst < (↑p.length : Int)) then
            (decide (x.snd.snd.snd.snd.fst < (↑p.length : Int)) = true → (0 : Int) ≤ x.snd.snd.snd.snd.fst) ∧
              (decide (x.snd.snd.snd.snd.fst < (↑p.length : Int)) = true → x.snd.snd.snd.snd.fst < (↑p.length : Int)) ∧
                bif
                    bif decide (x.snd.snd.snd.snd.fst < (↑p.length : Int)) then
                      decide (p.getD x.snd.snd.snd.snd.fst.toNat (0 : Int) = (42 : Int))
                    else false then
                  ∃ (y : Int × Int × Int × Int × Int × Int),
                    U.stname_like_3 p s x.snd.snd.snd.snd.fst x.snd.snd.snd.snd.snd (-1 : Int) (0 : Int)
                          (IntKind.i64.wrap (x.snd.snd.snd.snd.fst.add (1 : Int))) x.snd.snd.snd.snd.snd =
                        U.stname_like_3 p s y.fst y.snd.fst y.snd.snd.fst y.snd.snd.snd.fst y.snd.snd.snd.snd.fst
                          y.snd.snd.snd.snd.snd ∧
                      U.Iname_like_3 p s y.fst y.snd.fst y.snd.snd.fst y.snd.snd.snd.fst y.snd.snd.snd.snd.fst
                          y.snd.snd.snd.snd.snd ∧
                        ((((((((((↑p.length : Int).sub y.fst).mul (100 : Int)).add
                                                      ((↑s.length : Int).sub y.snd.fst)).mul
                                                  (100 : Int)).add
                                              ((↑p.length : Int).sub y.snd.snd.fst)).mul
                                          (100 : Int)).add
                                      ((↑s.length : Int).sub y.snd.snd.snd.fst)).mul
                                  (100 : Int)).add
                              ((↑p.length : Int).sub y.snd.snd.snd.snd.fst)).toNat <
                          ((((((((((↑p.length : Int).sub x.fst).mul (100 : Int)).add
                                                      ((↑s.length : Int).sub x.snd.fst)).mul
                                                  (100 : Int)).add
                                              ((↑p.length : Int).sub x.snd.snd.fst)).mul
                                          (100 : Int)).add
                                      ((↑s.length : Int).sub x.snd.snd.snd.fst)).mul
                                  (100 : Int)).add
                              ((↑p.length : Int).sub x.snd.snd.snd.snd.fst)).toNat
                else
                  (decide (x.snd.snd.snd.snd.fst < (↑p.length : Int)) = true → (0 : Int) ≤ x.snd.snd.snd.snd.fst) ∧
                    (decide (x.snd.snd.snd.snd.fst < (↑p.length : Int)) = true →
                        x.snd.snd.snd.snd.fst < (↑p.length : Int)) ∧
                      bif
                          bif decide (x.snd.snd.snd.snd.fst < (↑p.length : Int)) then
                            decide (p.getD x.snd.snd.snd.snd.fst.toNat (0 : Int) = (37 : Int))
                          else false then
                        ∃ (y : Int × Int × Int × Int × Int × Int),
                          U.stname_like_3 p s x.fst x.snd.fst x.snd.snd.snd.snd.fst x.snd.snd.snd.snd.snd
                                (IntKind.i64.wrap (x.snd.snd.snd.snd.fst.add (1 : Int))) x.snd.snd.snd.snd.snd =
                              U.stname_like_3 p s y.fst y.snd.fst y.snd.snd.fst y.snd.snd.snd.fst y.snd.snd.snd.snd.fst
                                y.snd.snd.snd.snd.snd ∧
                            U.Iname_like_3 p s y.fst y.snd.fst y.snd.snd.fst y.snd.snd.snd.fst y.snd.snd.snd.snd.fst
                                y.snd.snd.snd.snd.snd ∧
                              ((((((((((↑p.length : Int).sub y.fst).mul (100 : Int)).add
                                                            ((↑s.length : Int).sub y.snd.fst)).mul
                                                        (100 : Int)).add
                                                    ((↑p.length : Int).sub y.snd.snd.fst)).mul
                                                (100 : Int)).add
                                            ((↑s.length : Int).sub y.snd.snd.snd.fst)).mul
                                        (100 : Int)).add
                                    ((↑p.length : Int).sub y.snd.snd.snd.snd.fst)).toNat <
                                ((((((((((↑p.length : Int).sub x.fst).mul (100 : Int)).add
                                                            ((↑s.length : Int).sub x.snd.fst)).mul
                                                        (100 : Int)).add
                                                    ((↑p.length : Int).sub x.snd.snd.fst)).mul
                                                (100 : Int)).add
                                            ((↑s.length : Int).sub x.snd.snd.snd.fst)).mul
                                        (100 : Int)).add
                                    ((↑p.length : Int).sub x.snd.snd.snd.snd.fst)).toNat
                      else
                        ((bif decide (x.snd.snd.snd.snd.fst < (↑p.length : Int)) then
                                decide (x.snd.snd.snd.snd.snd < (↑s.length : Int))
                              else false) =
                              true →
                            (0 : Int) ≤ x.snd.snd.snd.snd.fst) ∧
                          ((bif decide (x.snd.snd.snd.snd.fst < (↑p.length : Int)) then
                                  decide (x.snd.snd.snd.snd.snd < (↑s.length : Int))
                                else false) =
                                true →
                              x.snd.snd.snd.snd.fst < (↑p.length : Int)) ∧
                            ((bif decide (x.snd.snd.snd.snd.fst < (↑p.length : Int)) then
                                    decide (x.snd.snd.snd.snd.snd < (↑s.length : Int))
                                  else false) =
                                  true →
                                (0 : Int) ≤ x.snd.snd.snd.snd.snd) ∧
                              ((bif decide (x.snd.snd.snd.snd.fst < (↑p.length : Int)) then
                                      decide (x.snd.snd.snd.snd.snd < (↑s.length : Int))
                                    else false) =
                                    true →
                                  x.snd.snd.snd.snd.snd < (↑s.length : Int)) ∧
                                bif
                                    bif
                                        bif decide (x.snd.snd.snd.snd.fst < (↑p.length : Int)) then
                                          decide (x.snd.snd.snd.snd.snd < (↑s.length : Int))
                                        else false then
                                      decide
                                        (p.getD x.snd.snd.snd.snd.fst.toNat (0 : Int) =
                                          s.getD x.snd.snd.snd.snd.snd.toNat (0 : Int))
                                    else false then
                                  ∃ (y : Int × Int × Int × Int × Int × Int),
                                    U.stname_like_3 p s x.fst x.snd.fst x.snd.snd.fst x.snd.snd.snd.fst
                                          (IntKind.i64.wrap (x.snd.snd.snd.snd.fst.add (1 : Int)))
                                          (IntKind.i64.wrap (x.snd.snd.snd.snd.snd.add (1 : Int))) =
                                        U.stname_like_3 p s y.fst y.snd.fst y.snd.snd.fst y.snd.snd.snd.fst
                                          y.snd.snd.snd.snd.fst y.snd.snd.snd.snd.snd ∧
                                      U.Iname_like_3 p s y.fst y.snd.fst y.snd.snd.fst y.snd.snd.snd.fst
                                          y.snd.snd.snd.snd.fst y.snd.snd.snd.snd.snd ∧
                                        ((((((((((↑p.length : Int).sub y.fst).mul (100 : Int)).add
                                                                      ((↑s.length : Int).sub y.snd.fst)).mul
                                                                  (100 : Int)).add
                                                              ((↑p.length : Int).sub y.snd.snd.fst)).mul
                                                          (100 : Int)).add
                                                      ((↑s.length : Int).sub y.snd.snd.snd.fst)).mul
                                                  (100 : Int)).add
                                              ((↑p.length : Int).sub y.snd.snd.snd.snd.fst)).toNat <
                                          ((((((((((↑p.length : Int).sub x.fst).mul (100 : Int)).add
                                                                      ((↑s.length : Int).sub x.snd.fst)).mul
                                                                  (100 : Int)).add
                                                              ((↑p.length : Int).sub x.snd.snd.fst)).mul
                                                          (100 : Int)).add
                                                      ((↑s.length : Int).sub x.snd.snd.snd.fst)).mul
                                                  (100 : Int)).add
                                              ((↑p.length : Int).sub x.snd.snd.snd.snd.fst)).toNat
                                else
                                  ((bif decide (x.snd.snd.fst ≥ (0 : Int)) then
                                          decide (x.snd.snd.snd.fst < (↑s.length : Int))
                                        else false) =
                                        true →
                                      (0 : Int) ≤ x.snd.snd.snd.fst) ∧
                                    ((bif decide (x.snd.snd.fst ≥ (0 : Int)) then
                                            decide (x.snd.snd.snd.fst < (↑s.length : Int))
                                          else false) =
                                          true →
                                        x.snd.snd.snd.fst < (↑s.length : Int)) ∧
                                      bif
                                          bif
                                              bif decide (x.snd.snd.fst ≥ (0 : Int)) then
                                                decide (x.snd.snd.snd.fst < (↑s.length : Int))
                                              else false then
                                            s.getD x.snd.snd.snd.fst.toNat (0 : Int) != (47 : Int)
                                          else false then
                                        ∃ (y : Int × Int × Int × Int × Int × Int),
                                          U.stname_like_3 p s x.fst x.snd.fst x.snd.snd.fst
                                                (IntKind.i64.wrap (x.snd.snd.snd.fst.add (1 : Int)))
                                                (IntKind.i64.wrap (x.snd.snd.fst.add (1 : Int)))
                                                (IntKind.i64.wrap (x.snd.snd.snd.fst.add (1 : Int))) =
                                              U.stname_like_3 p s y.fst y.snd.fst y.snd.snd.fst y.snd.snd.snd.fst
                                                y.snd.snd.snd.snd.fst y.snd.snd.snd.snd.snd ∧
                                            U.Iname_like_3 p s y.fst y.snd.fst y.snd.snd.fst y.snd.snd.snd.fst
                                                y.snd.snd.snd.snd.fst y.snd.snd.snd.snd.snd ∧
                                              ((((((((((↑p.length : Int).sub y.fst).mul (100 : Int)).add
                                                                            ((↑s.length : Int).sub y.snd.fst)).mul
                                                                        (100 : Int)).add
                                                                    ((↑p.length : Int).sub y.snd.snd.fst)).mul
                                                                (100 : Int)).add
                                                            ((↑s.length : Int).sub y.snd.snd.snd.fst)).mul
                                                        (100 : Int)).add
                                                    ((↑p.length : Int).sub y.snd.snd.snd.snd.fst)).toNat <
                                                ((((((((((↑p.length : Int).sub x.fst).mul (100 : Int)).add
                                                                            ((↑s.length : Int).sub x.snd.fst)).mul
                                                                        (100 : Int)).add
                                                                    ((↑p.length : Int).sub x.snd.snd.fst)).mul
                                                                (100 : Int)).add
                                                            ((↑s.length : Int).sub x.snd.snd.snd.fst)).mul
                                                        (100 : Int)).add
                                                    ((↑p.length : Int).sub x.snd.snd.snd.snd.fst)).toNat
                                      else
                                        bif
                                            bif decide (x.fst ≥ (0 : Int)) then decide (x.snd.fst < (↑s.length : Int))
                                            else false then
                                          ∃ (y : Int × Int × Int × Int × Int × Int),
                                            U.stname_like_3 p s x.fst (IntKind.i64.wrap (x.snd.fst.add (1 : Int)))
                                                  (-1 : Int) (0 : Int) (IntKind.i64.wrap (x.fst.add (1 : Int)))
                                                  (IntKind.i64.wrap (x.snd.fst.add (1 : Int))) =
                                                U.stname_like_3 p s y.fst y.snd.fst y.snd.snd.fst y.snd.snd.snd.fst
                                                  y.snd.snd.snd.snd.fst y.snd.snd.snd.snd.snd ∧
                                              U.Iname_like_3 p s y.fst y.snd.fst y.snd.snd.fst y.snd.snd.snd.fst
                                                  y.snd.snd.snd.snd.fst y.snd.snd.snd.snd.snd ∧
                                                ((((((((((↑p.length : Int).sub y.fst).mul (100 : Int)).add
                                                                              ((↑s.length : Int).sub y.snd.fst)).mul
                                                                          (100 : Int)).add
                                                                      ((↑p.length : Int).sub y.snd.snd.fst)).mul
                                                                  (100 : Int)).add
                                                              ((↑s.length : Int).sub y.snd.snd.snd.fst)).mul
                                                          (100 : Int)).add
                                                      ((↑p.length : Int).sub y.snd.snd.snd.snd.fst)).toNat <
                                                  ((((((((((↑p.length : Int).sub x.fst).mul (100 : Int)).add
                                                                              ((↑s.length : Int).sub x.snd.fst)).mul
                                                                          (100 : Int)).add
                                                                      ((↑p.length : Int).sub x.snd.snd.fst)).mul
                                                                  (100 : Int)).add
                                                              ((↑s.length : Int).sub x.snd.snd.snd.fst)).mul
                                                          (100 : Int)).add
                                                      ((↑p.length : Int).sub x.snd.snd.snd.snd.fst)).toNat
                                        else false = U.matchP p s ∧ True
          else true = U.matchP p s ∧ True
def vcname_Like (p : List Int) (s : List Int) : Prop :=
  p.length ≤ (1000000000000 : Nat) ∧
    (U.patternN p = true → s.length ≤ (1000000000000 : Nat)) ∧
      ((bif U.patternN p then U.rightN s else false) = true → p.length ≤ (80 : Nat)) ∧
        ((bif U.patternN p then U.rightN s else false) = true → s.length ≤ (40 : Nat)) ∧
          (bif bif U.patternN p then U.rightN s else false then U.matchP p s else false) = U.likeN p s ∧ True
def vcname_Join (p : List Int) (s : List Int) : Prop :=
  p.length.add s.length ≤ (9223372036854775807 : Nat) ∧
    (p.append s).length ≤ (1000000000000 : Nat) ∧
      bif !U.patternN (p.append s) then [] = (U.joinN p s).fst ∧ (3 : Int) = (U.joinN p s).snd ∧ True
      else
        p.length.add s.length ≤ (9223372036854775807 : Nat) ∧
          p.append s = (U.joinN p s).fst ∧ (0 : Int) = (U.joinN p s).snd ∧ True
end Go.Proofs.YtaaonbnjghjhlaaDoor
/- What is owed of the functions, proved in plain Lean. -/
set_option linter.unusedSimpArgs false
set_option linter.unusedVariables false
set_option maxRecDepth 100000
namespace Go.Proofs.YtaaonbnjghjhlaaDoor
open Go.Vc
open Go.Vc.T
theorem okname_odd (c : Int) : vcname_odd c := by
  unfold vcname_odd U.oddB
  simp only [cond_or]
  refine ⟨?_, trivial⟩
  rw [Bool.or_assoc]
theorem okname_pattern_1 (c : Int) : vcname_pattern_1 c := by
  unfold vcname_pattern_1 U.wildB
  simp only [cond_or, and_true]
theorem idxP_neg (p : Int → Bool) : ∀ (l : List Int) (i : Int), 0 ≤ i → (decide (U.idxP p l i ≥ 0) = l.any p) ∧ (U.idxP p l i = -1 ∨ i ≤ U.idxP p l i)
  | [], i, _ => ⟨rfl, .inl rfl⟩
  | x :: r, i, h => by
    have ih := idxP_neg p r (i + 1) (by omega)
    unfold U.idxP
    cases hp : p x with
    | true => simp [hp]; omega
    | false =>
      rw [if_neg (by simp), List.any_cons, hp, Bool.false_or]
      refine ⟨ih.1, ?_⟩
      rcases ih.2 with h | h
      · exact .inl h
      · exact .inr (by omega)
theorem okslices_ContainsFunc_byte_byteO (l : List Int) (hl : l.length ≤ maxLen) : vcslices_ContainsFunc_byte_byteO l := by
  unfold vcslices_ContainsFunc_byte_byteO
  rw [maxLen_eq] at hl
  simp only [cond_prop, int_add, int_neg, nat_sub, U.IIndexFuncO, U.at_, wrap_i64, decide_eq_true_eq, decide_eq_false_iff_not]
  refine ⟨0, ⟨rfl, ⟨by omega, by omega⟩, rfl⟩, ?_⟩
  rintro i ⟨⟨h0, h1⟩, h2⟩
  refine ⟨fun hi => ⟨h0, hi, by omega, fun he => ?_, fun he => ⟨i + 1, ?_, ⟨⟨by omega, by omega⟩, ?_⟩, by omega⟩⟩, fun hi => ?_⟩
  · rw [drop_at h0 hi] at h2
    rw [getD_at (by omega)] at he
    rw [← h2, U.idxP, if_pos he]; simp
  · rw [show (i + 1 + 9223372036854775808) % 18446744073709551616 - 9223372036854775808 = i + 1 by omega]
  · rw [drop_at h0 hi] at h2
    rw [getD_at (by omega)] at he
    rw [← h2, U.idxP, if_neg (by rw [he]; simp)]
  · rw [drop_end (by omega)] at h2
    rw [← h2]; simp [U.idxP]
theorem okslices_ContainsFunc_byte_byteP (l : List Int) (hl : l.length ≤ maxLen) : vcslices_ContainsFunc_byte_byteP l := by
  unfold vcslices_ContainsFunc_byte_byteP
  rw [maxLen_eq] at hl
  simp only [cond_prop, cond_and, int_add, int_neg, nat_sub, U.IIndexFuncP, U.at_, wrap_i64, decide_eq_true_eq, decide_eq_false_iff_not]
  refine ⟨0, ⟨rfl, ⟨by omega, by omega⟩, rfl⟩, ?_⟩
  rintro i ⟨⟨h0, h1⟩, h2⟩
  refine ⟨fun hi => ⟨h0, hi, by omega, fun he => ?_, fun he => ⟨i + 1, ?_, ⟨⟨by omega, by omega⟩, ?_⟩, by omega⟩⟩, fun hi => ?_⟩
  · rw [drop_at h0 hi] at h2
    rw [getD_at (by omega)] at he
    rw [← h2, U.idxP, if_pos (show U.patB _ = true from he)]; simp
  · rw [show (i + 1 + 9223372036854775808) % 18446744073709551616 - 9223372036854775808 = i + 1 by omega]
  · rw [drop_at h0 hi] at h2
    rw [getD_at (by omega)] at he
    rw [← h2, U.idxP, if_neg (by rw [show U.patB _ = false from he]; simp)]
  · rw [drop_end (by omega)] at h2
    rw [← h2]; simp [U.idxP]
theorem okname_Right (s : List Int) (h : s.length ≤ 1000000000000) : vcname_Right s := by
  refine ⟨h, ?_, trivial⟩
  unfold U.rightN
  rw [cond_and, list_beq]; congr 1
  rw [Bool.eq_iff_iff]; simp
theorem okname_Below (s t : List Int) (h : s.length ≤ 1000000000000) : vcname_Below s t := ⟨h, rfl, trivial⟩
theorem ge_not (a : Int) : (!decide (a ≥ 0)) = decide (a < 0) := by
  rw [Bool.eq_iff_iff]; simp
theorem okname_pattern (s : List Int) (h : s.length ≤ 1000000000000) : vcname_pattern s := by
  unfold vcname_pattern U.patternN
  simp only [cond_prop, ge_not, decide_eq_true_eq, decide_eq_false_iff_not]
  refine ⟨fun h1 => ⟨?_, trivial⟩, fun h1 => ⟨?_, trivial⟩⟩
  · rw [show decide (s.length ≤ 80) = true by rw [decide_eq_true_eq]; omega]; rfl
  · rw [show decide (s.length ≤ 80) = false by rw [decide_eq_false_iff_not]; omega]; rfl
theorem idxS_low (x : List Int) : ∀ (l : List (List Int)) (i : Int), 0 ≤ i → U.idxS x l i = -1 ∨ i ≤ U.idxS x l i
  | [], i, _ => .inl rfl
  | y :: r, i, h => by
    have ih := idxS_low x r (i + 1) (by omega)
    unfold U.idxS; split
    · exact .inr (by omega)
    · rcases ih with h | h
      · exact .inl h
      · exact .inr (by omega)
theorem okname_formed (s : List Int) (h : s.length ≤ 1000000000000) : vcname_formed s := by
  unfold vcname_formed U.formedN
  have hg : [(47 : Int)].getD 0 0 = 47 := rfl
  rw [hg]
  simp only [cond_and, ge_not]
  refine ⟨trivial, trivial, trivial, h, ?_⟩
  rw [show decide ((s.length : Int) ≤ 40) = decide (s.length ≤ 40) by rw [decide_eq_decide]; omega, show decide (((U.split 47 s).length : Int) ≤ 4) = decide ((U.split 47 s).length ≤ 4) by rw [decide_eq_decide]; omega]
  cases decide (s.length ≤ 40) <;> cases decide ((U.split 47 s).length ≤ 4) <;> cases decide (U.idxS [] (U.split 47 s) 0 < 0) <;> simp
theorem okname_Join (p s : List Int) (h1 : p.length ≤ 500000000000) (h2 : s.length ≤ 500000000000) : vcname_Join p s := by
  unfold vcname_Join U.joinN
  simp only [list_append, nat_add]
  refine ⟨by omega, by rw [List.length_append]; omega, ?_⟩
  cases U.patternN (p ++ s) with
  | true => exact ⟨by omega, rfl, rfl, trivial⟩
  | false => exact ⟨rfl, rfl, trivial⟩
theorem formed_len {s : List Int} (h : U.formedN s = true) : s.length ≤ 40 := by
  unfold U.formedN at h
  simp only [Bool.and_eq_true, decide_eq_true_eq] at h
  exact h.1
theorem right_formed {s : List Int} (h : U.rightN s = true) : U.formedN s = true := by
  unfold U.rightN U.cleanN at h
  cases hf : U.formedN s with
  | true => rfl
  | false => rw [hf] at h; simp at h
theorem okname_Like (p s : List Int) (h1 : p.length ≤ 1000000000000) (h2 : s.length ≤ 1000000000000) : vcname_Like p s := by
  unfold vcname_Like U.likeN
  simp only [cond_and]
  refine ⟨h1, fun _ => h2, fun h => ?_, fun h => ?_, ?_, trivial⟩
  · rw [Bool.and_eq_true] at h
    have := h.1; unfold U.patternN at this
    simp only [Bool.and_eq_true, decide_eq_true_eq] at this; exact this.1
  · rw [Bool.and_eq_true] at h
    exact formed_len (right_formed h.2)
  · rw [Bool.and_assoc]
theorem above_len (s : List Int) : ∀ i, (U.aboveFrom s i).length ≤ i
  | 0 => Nat.le_refl _
  | i + 1 => by
    have := above_len s i
    unfold U.aboveFrom; rw [List.length_append]
    cases decide (s.getD i 0 = 47) <;> simp <;> omega
theorem okname_Above (s : List Int) (h : s.length ≤ 1000000000000) : vcname_Above s := by
  unfold vcname_Above U.aboveN
  refine ⟨h, ?_⟩
  cases hr : U.rightN s with
  | false => exact ⟨rfl, trivial⟩
  | true =>
    simp only [Bool.not_true, cond_false, cond_true, cond_prop, int_add, nat_add, nat_sub, nat_mul, list_append, list_beq, U.Iname_Above_5, U.at_, maxLen_eq, wrap_i64, decide_eq_true_eq, decide_eq_false_iff_not]
    refine ⟨([], 0), ⟨rfl, ⟨by simp, by simp⟩, rfl, by simp⟩, ?_⟩
    rintro ⟨o, i⟩ ⟨⟨h0, h1⟩, ho, hl⟩
    simp only [] at *
    refine ⟨fun hi => ?_, fun hi => ⟨?_, trivial⟩⟩
    · have hfl := formed_len (right_formed hr)
      have e : (i + 1 + 9223372036854775808) % 18446744073709551616 - 9223372036854775808 = i + 1 := by omega
      rw [e]
      have hsl : List.take ((i + 1).toNat - i.toNat) (List.drop i.toNat s) = [s.getD i.toNat 0] := by
        rw [drop_at h0 hi, getD_at (by omega), show (i + 1).toNat - i.toNat = 1 by omega]; rfl
      rw [hsl]
      have hst : U.aboveFrom s (i + 1).toNat = U.aboveFrom s i.toNat ++ cond (decide (s.getD i.toNat 0 = 47)) [s.take i.toNat] [] := by
        rw [show (i + 1).toNat = i.toNat + 1 by omega]; rfl
      refine ⟨by omega, by omega, by omega, fun he => ⟨by omega, by omega, by omega, by omega, by omega, (_, i + 1), rfl, ⟨⟨by show 0 ≤ i + 1; omega, by show i + 1 ≤ _; omega⟩, ?_, ?_⟩, by show s.length - (i + 1).toNat < _; omega⟩, fun he => ⟨(_, i + 1), rfl, ⟨⟨by show 0 ≤ i + 1; omega, by show i + 1 ≤ _; omega⟩, ?_, by show (o.length : Int) ≤ i + 1; omega⟩, by show s.length - (i + 1).toNat < _; omega⟩⟩
      · have he : s.getD i.toNat 0 = 47 := by simpa using he
        show o ++ [List.take (i.toNat - 0) (List.drop 0 s)] = _
        rw [hst, he, ← ho]; rfl
      · show (((o ++ [List.take (i.toNat - 0) (List.drop 0 s)]).length : Nat) : Int) ≤ i + 1
        rw [List.length_append]; show ((o.length + 1 : Nat) : Int) ≤ i + 1; omega
      · have he : ¬ s.getD i.toNat 0 = 47 := by simpa using he
        show o = _
        rw [hst, show decide (s.getD i.toNat 0 = 47) = false by simpa using he, ← ho]; simp
    · rw [ho, show i.toNat = s.length by omega]
theorem formed_ascii {s : List Int} (h : U.formedN s = true) : ∀ x ∈ s, U.oddB x = false := by
  unfold U.formedN at h
  simp only [Bool.and_eq_true, decide_eq_true_eq] at h
  have h2 := (idxP_neg U.oddB s 0 (by omega)).1
  rw [show decide (U.idxP U.oddB s 0 ≥ 0) = false by rw [decide_eq_false_iff_not]; omega] at h2
  intro x hx
  have := h2.symm
  rw [List.any_eq_false] at this
  simpa using this x hx
theorem odd_lt {x : Int} (h : U.oddB x = false) : x < 128 := by
  unfold U.oddB at h
  simp only [Bool.or_eq_false_iff, decide_eq_false_iff_not] at h
  omega
theorem okname_Clean (s : List Int) (hb : ∀ x ∈ s, Byte x) (h : s.length ≤ 1000000000000) : vcname_Clean s := by
  unfold vcname_Clean
  have hg : [(47 : Int)].getD 0 0 = 47 := rfl
  rw [hg]
  have hi := idxB_bounds s 47
  refine ⟨h, ?_⟩
  cases hf : U.formedN s with
  | false => unfold U.cleanN; rw [hf]; exact ⟨rfl, rfl, trivial⟩
  | true =>
    have h40 := formed_len hf
    have hasc : ∀ x ∈ s, x < 128 := fun x hx => odd_lt (formed_ascii hf x hx)
    have hin : ∀ x : Int, x ∈ [(73 : Int), 78, 66, 79, 88] → x < 128 := by intro x hx; simp at hx; omega
    simp only [Bool.not_true, cond_false, cond_prop, decide_eq_true_eq, decide_eq_false_iff_not, nat_sub, nat_add, list_append]
    refine ⟨trivial, fun hpos => ?_, fun hneg => ?_⟩
    · have w1 : IntKind.i64.wrap (Int.add (idxB s 47) ((1 : Nat) : Int)) = idxB s 47 + 1 := by rw [wrap_i64, int_add]; omega
      have hdl : (s.drop (idxB s 47 + 1).toNat).length = s.length - (idxB s 47 + 1).toNat := List.length_drop
      have htl : (s.take (idxB s 47).toNat).length = (idxB s 47).toNat := by rw [List.length_take]; omega
      rw [w1, show ((s.length : Int)).toNat = s.length by omega, List.take_of_length_le (l := s.drop (idxB s 47 + 1).toNat) (by omega), List.drop_zero, Nat.sub_zero]
      have hfst : U.firstN s = s.take (idxB s 47).toNat := by unfold U.firstN; rw [show decide (idxB s 47 ≥ 0) = true by rw [decide_eq_true_eq]; omega]; rfl
      have hrest : U.restN s = 47 :: s.drop (idxB s 47 + 1).toNat := by unfold U.restN; rw [show decide (idxB s 47 ≥ 0) = true by rw [decide_eq_true_eq]; omega, show (idxB s 47 + 1).toNat = (idxB s 47).toNat + 1 by omega]; rfl
      refine ⟨by omega, by omega, by omega, by omega, by omega, by omega, ⟨fun x hx => hasc x (List.mem_of_mem_take hx), hin, by omega⟩, fun heq => ?_, fun heq => ?_⟩
      · refine ⟨by omega, by omega, ?_, ?_, trivial⟩
        · unfold U.cleanN; rw [hf, hfst, hrest, show decide ((s.take (idxB s 47).toNat).map lowB = U.inboxL.map lowB) = true from decide_eq_true heq]; rfl
        · unfold U.cleanN; rw [hf]; rfl
      · refine ⟨by omega, by omega, ?_, ?_, trivial⟩
        · unfold U.cleanN; rw [hf, hfst, hrest, show decide ((s.take (idxB s 47).toNat).map lowB = U.inboxL.map lowB) = false from decide_eq_false heq]; rfl
        · unfold U.cleanN; rw [hf]; rfl
    · have hfst : U.firstN s = s := by unfold U.firstN; rw [show decide (idxB s 47 ≥ 0) = false by rw [decide_eq_false_iff_not]; omega]; rfl
      have hrest : U.restN s = [] := by unfold U.restN; rw [show decide (idxB s 47 ≥ 0) = false by rw [decide_eq_false_iff_not]; omega]; rfl
      refine ⟨⟨fun x hx => hasc x hx, hin, by omega⟩, fun heq => ?_, fun heq => ?_⟩
      · refine ⟨?_, ?_, trivial⟩
        · unfold U.cleanN; rw [hf, hfst, hrest, show decide (s.map lowB = U.inboxL.map lowB) = true from decide_eq_true heq]; rfl
        · unfold U.cleanN; rw [hf]; rfl
      · refine ⟨?_, ?_, trivial⟩
        · unfold U.cleanN; rw [hf, hfst, hrest, show decide (s.map lowB = U.inboxL.map lowB) = false from decide_eq_false heq]
          show s = s ++ []
          rw [List.append_nil]
        · unfold U.cleanN; rw [hf]; rfl
theorem mAt_end {p s : List Int} {i j : Int} (h0 : 0 ≤ j) (h1 : j ≤ s.length) (hi : i ≥ p.length) : (U.mAt p s i j = true ↔ j = s.length) := by
  unfold U.mAt; rw [drop_end hi, U.matchP, List.isEmpty_iff, List.drop_eq_nil_iff]; omega
theorem matchP_star (p s : List Int) : U.matchP (42 :: p) s = U.anySuf (U.matchP p) s := rfl
theorem matchP_part (p s : List Int) : U.matchP (37 :: p) s = U.anyRun (U.matchP p) s := rfl
theorem anySuf_c (f : List Int → Bool) (x : Int) (s : List Int) : U.anySuf f (x :: s) = (f (x :: s) || U.anySuf f s) := rfl
theorem anyRun_c (f : List Int → Bool) (x : Int) (s : List Int) : U.anyRun f (x :: s) = (f (x :: s) || (decide (x ≠ 47) && U.anyRun f s)) := rfl
theorem matchP_lit {c : Int} (h1 : c ≠ 42) (h2 : c ≠ 37) (p s : List Int) : U.matchP (c :: p) s = (match s with | [] => false | x :: r => decide (c = x) && U.matchP p r) := by
  show cond (decide (c = 42)) _ (cond (decide (c = 37)) _ _) = _
  rw [decide_eq_false h1, decide_eq_false h2]; cases s <;> rfl
theorem mAt_star {p s : List Int} {i j : Int} (h0 : 0 ≤ i) (hi : i < p.length) (hj : 0 ≤ j) (hp : p.getD i.toNat 0 = 42) : (U.mAt p s i j = true ↔ U.mAt p s (i + 1) j = true ∨ (j < s.length ∧ U.mAt p s i (j + 1) = true)) := by
  rw [getD_at (by omega)] at hp
  unfold U.mAt; rw [drop_at h0 hi, hp, matchP_star, matchP_star]
  by_cases h : j < s.length
  · rw [drop_at hj h, anySuf_c]; simp [h]
  · rw [drop_end (l := s) (i := j) (by omega)]; simp [U.anySuf, h]
theorem mAt_part {p s : List Int} {i j : Int} (h0 : 0 ≤ i) (hi : i < p.length) (hj : 0 ≤ j) (hp : p.getD i.toNat 0 = 37) : (U.mAt p s i j = true ↔ U.mAt p s (i + 1) j = true ∨ (j < s.length ∧ s.getD j.toNat 0 ≠ 47 ∧ U.mAt p s i (j + 1) = true)) := by
  rw [getD_at (by omega)] at hp
  unfold U.mAt; rw [drop_at h0 hi, hp, matchP_part, matchP_part]
  by_cases h : j < s.length
  · rw [getD_at (l := s) (by omega), drop_at hj h, anyRun_c]; simp [h]
  · rw [drop_end (l := s) (i := j) (by omega)]; simp [U.anyRun, h]
theorem mAt_lit {p s : List Int} {i j : Int} (h0 : 0 ≤ i) (hi : i < p.length) (hj : 0 ≤ j) (hp : p.getD i.toNat 0 ≠ 42) (hq : p.getD i.toNat 0 ≠ 37) : (U.mAt p s i j = true ↔ j < s.length ∧ p.getD i.toNat 0 = s.getD j.toNat 0 ∧ U.mAt p s (i + 1) (j + 1) = true) := by
  rw [getD_at (by omega)] at *
  unfold U.mAt; rw [drop_at h0 hi, matchP_lit hp hq]
  by_cases h : j < s.length
  · rw [getD_at (l := s) (by omega), drop_at hj h]; simp [h]
  · rw [drop_end (l := s) (i := j) (by omega)]; simp [h]
theorem star_ge {p s : List Int} {i : Int} (h0 : 0 ≤ i) (hi : i < p.length) (hp : p.getD i.toNat 0 = 42) : ∀ (n : Nat) (j : Int), 0 ≤ j → j + n ≤ s.length → U.mAt p s i (j + n) = true → U.mAt p s i j = true
  | 0, j, _, _, h => by simpa using h
  | n + 1, j, hj, hl, h => by
    rw [mAt_star h0 hi hj hp]
    refine .inr ⟨by omega, star_ge h0 hi hp n (j + 1) (by omega) (by omega) ?_⟩
    rw [show j + 1 + (n : Int) = j + ((n + 1 : Nat) : Int) by omega]; exact h
theorem part_ge {p s : List Int} {i : Int} (h0 : 0 ≤ i) (hi : i < p.length) (hp : p.getD i.toNat 0 = 37) : ∀ (n : Nat) (j : Int), 0 ≤ j → j + n ≤ s.length → (∀ x : Int, j ≤ x → x < j + n → s.getD x.toNat 0 ≠ 47) → U.mAt p s i (j + n) = true → U.mAt p s i j = true
  | 0, j, _, _, _, h => by simpa using h
  | n + 1, j, hj, hl, hx, h => by
    rw [mAt_part h0 hi hj hp]
    refine .inr ⟨by omega, hx j (by omega) (by omega), part_ge h0 hi hp n (j + 1) (by omega) (by omega) (fun x h1 h2 => hx x (by omega) (by omega)) ?_⟩
    rw [show j + 1 + (n : Int) = j + ((n + 1 : Nat) : Int) by omega]; exact h
theorem star_ex {p s : List Int} {i : Int} (h0 : 0 ≤ i) (hi : i < p.length) (hp : p.getD i.toNat 0 = 42) : ∀ (n : Nat) (j : Int), 0 ≤ j → j + n = s.length → U.mAt p s i j = true → ∃ t : Int, j ≤ t ∧ t ≤ s.length ∧ U.mAt p s (i + 1) t = true
  | n, j, hj, hl, h => by
    rw [mAt_star h0 hi hj hp] at h
    rcases h with h | ⟨h1, h⟩
    · exact ⟨j, by omega, by omega, h⟩
    · obtain ⟨m, rfl⟩ : ∃ m, n = m + 1 := ⟨n - 1, by omega⟩
      obtain ⟨t, a1, a2, a3⟩ := star_ex h0 hi hp m (j + 1) (by omega) (by omega) h
      exact ⟨t, by omega, a2, a3⟩
theorem part_ex {p s : List Int} {i : Int} (h0 : 0 ≤ i) (hi : i < p.length) (hp : p.getD i.toNat 0 = 37) : ∀ (n : Nat) (j : Int), 0 ≤ j → j + n = s.length → U.mAt p s i j = true → ∃ t : Int, j ≤ t ∧ t ≤ s.length ∧ (∀ x : Int, j ≤ x → x < t → s.getD x.toNat 0 ≠ 47) ∧ U.mAt p s (i + 1) t = true
  | n, j, hj, hl, h => by
    rw [mAt_part h0 hi hj hp] at h
    rcases h with h | ⟨h1, h2, h⟩
    · exact ⟨j, by omega, by omega, fun x _ _ => by omega, h⟩
    · obtain ⟨m, rfl⟩ : ∃ m, n = m + 1 := ⟨n - 1, by omega⟩
      obtain ⟨t, a1, a2, a4, a3⟩ := part_ex h0 hi hp m (j + 1) (by omega) (by omega) h
      refine ⟨t, by omega, a2, fun x hx1 hx2 => ?_, a3⟩
      by_cases he : x = j
      · rw [he]; exact h2
      · exact a4 x (by omega) hx2
/-- a star's place is not ahead of where its text was matched up to now -/
theorem star_far {p s : List Int} {a b c d i j : Int} (h : U.likeI p s a b c d i j) (ha : a ≥ 0) {t : Int} (h1 : b ≤ t) (h2 : t ≤ s.length) (h3 : U.mAt p s (a + 1) t = true) : ∃ k : Int, j ≤ k ∧ k ≤ s.length ∧ U.mAt p s i k = true := by
  obtain ⟨⟨hi0, hi1, hj0, hj1, ha0, ha1, hb0, hb1, hc0, hc1, hd0, hd1, hd2, hac, hpa, hpc⟩, hL, hL2, hS, hm⟩ := h
  by_cases hc : c ≥ 0
  · obtain ⟨k, k1, k2, k3⟩ := hS ha hc t h1 h2 h3
    obtain ⟨l1, l2, l3⟩ := (hL hc).2 k (by omega) k2 k3
    exact ⟨_, by omega, l1, l2⟩
  · obtain ⟨l1, l2, l3⟩ := (hL2 ha (by omega)).2 t (by omega) h2 h3
    exact ⟨_, by have := (hL2 ha (by omega)).1; omega, l1, l2⟩
theorem part_far {p s : List Int} {a b c d i j : Int} (h : U.likeI p s a b c d i j) (hc : c ≥ 0) (h1 : d < s.length) (h2 : s.getD d.toNat 0 ≠ 47) (h3 : U.mAt p s c (d + 1) = true) : ∃ k : Int, j ≤ k ∧ k ≤ s.length ∧ U.mAt p s i k = true ∧ ∀ x : Int, j ≤ x → x < k → s.getD x.toNat 0 ≠ 47 := by
  obtain ⟨⟨hi0, hi1, hj0, hj1, ha0, ha1, hb0, hb1, hc0, hc1, hd0, hd1, hd2, hac, hpa, hpc⟩, hL, hL2, hS, hm⟩ := h
  obtain ⟨k, k1, k2, k3, k4⟩ := part_ex (p := p) (s := s) (i := c) (by omega) (by omega) (hpc hc) (s.length - (d + 1)).toNat (d + 1) (by omega) (by omega) h3
  obtain ⟨l1, l2, l3⟩ := (hL hc).2 k (by omega) k2 k4
  have hfree : ∀ n : Nat, ∀ x : Int, d ≤ x → x < d + n → x < k + (j - d) → s.getD x.toNat 0 ≠ 47 := by
    intro n
    induction n with
    | zero => intro x a1 a2; omega
    | succ n ih =>
      intro x a1 a2 a3
      by_cases hxk : x < k
      · by_cases hxd : x = d
        · rw [hxd]; exact h2
        · exact k3 x (by omega) hxk
      · have := l3 (x - k) (by omega) (by omega)
        rw [show k + (x - k) = x by omega] at this
        rw [this]
        exact ih (d + (x - k)) (by omega) (by omega) (by omega)
  exact ⟨_, by omega, l1, l2, fun x a1 a2 => hfree s.length x (by omega) (by omega) a2⟩
theorem like_init (p s : List Int) : U.likeI p s (-1) 0 (-1) 0 0 0 := by
  refine ⟨⟨by omega, by omega, by omega, by omega, by omega, by omega, by omega, by omega, by omega, by omega, by omega, by omega, by omega, by omega, by omega, by omega⟩, by omega, by omega, by omega, ?_⟩
  constructor
  · intro h; exact .inl h
  · rintro (h | h | h)
    · exact h
    · omega
    · omega
theorem like_star {p s : List Int} {a b c d i j : Int} (h : U.likeI p s a b c d i j) (hi : i < p.length) (hp : p.getD i.toNat 0 = 42) : U.likeI p s i j (-1) 0 (i + 1) j := by
  have h' := h
  obtain ⟨⟨hi0, hi1, hj0, hj1, ha0, ha1, hb0, hb1, hc0, hc1, hd0, hd1, hd2, hac, hpa, hpc⟩, hL, hL2, hS, hm⟩ := h
  refine ⟨⟨by omega, by omega, by omega, by omega, by omega, by omega, by omega, by omega, by omega, by omega, by omega, by omega, by omega, by omega, fun _ => hp, by omega⟩, by omega, fun _ _ => ?_, by omega, ?_⟩
  · refine ⟨by omega, fun k k1 k2 k3 => ⟨by omega, ?_, fun n n1 n2 => by omega⟩⟩
    rw [show k + (j - j) = k by omega]; exact k3
  · have : U.mAt p s i j = true ↔ U.matchP p s = true := by
      constructor
      · intro h; exact hm.2 (.inl h)
      · intro h
        rcases hm.1 h with h | ⟨h1, h2, h3, h4⟩ | ⟨h1, h2, h3⟩
        · exact h
        · obtain ⟨k, k1, k2, k3, _⟩ := part_far h' h1 h2 h3 h4
          exact star_ge hi0 hi hp (k - j).toNat j hj0 (by omega) (by rw [show j + ((k - j).toNat : Int) = k by omega]; exact k3)
        · obtain ⟨t, t1, t2, t3⟩ := star_ex (p := p) (s := s) h1 (by omega) (hpa h1) (s.length - (b + 1)).toNat (b + 1) (by omega) (by omega) h3
          obtain ⟨k, k1, k2, k3⟩ := star_far h' h1 (t := t) (by omega) t2 t3
          exact star_ge hi0 hi hp (k - j).toNat j hj0 (by omega) (by rw [show j + ((k - j).toNat : Int) = k by omega]; exact k3)
    rw [← this, mAt_star hi0 hi hj0 hp]
    constructor
    · rintro (h | ⟨h1, h2⟩)
      · exact .inl h
      · exact .inr (.inr ⟨by omega, h1, h2⟩)
    · rintro (h | h | ⟨h1, h2, h3⟩)
      · exact .inl h
      · omega
      · exact .inr ⟨h2, h3⟩
theorem like_part {p s : List Int} {a b c d i j : Int} (h : U.likeI p s a b c d i j) (hi : i < p.length) (hp : p.getD i.toNat 0 = 37) : U.likeI p s a b i j (i + 1) j := by
  have h' := h
  obtain ⟨⟨hi0, hi1, hj0, hj1, ha0, ha1, hb0, hb1, hc0, hc1, hd0, hd1, hd2, hac, hpa, hpc⟩, hL, hL2, hS, hm⟩ := h
  refine ⟨⟨by omega, by omega, by omega, by omega, by omega, by omega, by omega, by omega, by omega, by omega, by omega, by omega, by omega, by omega, hpa, fun _ => hp⟩, fun _ => ?_, fun _ h => by omega, fun h1 _ t t1 t2 t3 => ?_, ?_⟩
  · refine ⟨by omega, fun k k1 k2 k3 => ⟨by omega, ?_, fun n n1 n2 => by omega⟩⟩
    rw [show k + (j - j) = k by omega]; exact k3
  · obtain ⟨k, k1, k2, k3⟩ := star_far h' h1 (t := t) (by omega) t2 t3
    obtain ⟨u, u1, u2, _, u3⟩ := part_ex (p := p) (s := s) hi0 hi hp (s.length - k).toNat k (by omega) (by omega) k3
    exact ⟨u, by omega, u2, u3⟩
  · rw [hm, mAt_part hi0 hi hj0 hp]
    constructor
    · rintro (h | ⟨h1, h2, h3, h4⟩ | h)
      · rcases h with h | ⟨h1, h2, h3⟩
        · exact .inl h
        · exact .inr (.inl ⟨by omega, h1, h2, h3⟩)
      · obtain ⟨k, k1, k2, k3, k4⟩ := part_far h' h1 h2 h3 h4
        have := part_ge hi0 hi hp (k - j).toNat j hj0 (by omega) (fun x a1 a2 => k4 x a1 (by omega)) (by rw [show j + ((k - j).toNat : Int) = k by omega]; exact k3)
        rw [mAt_part hi0 hi hj0 hp] at this
        rcases this with h | ⟨h1, h2, h3⟩
        · exact .inl h
        · exact .inr (.inl ⟨by omega, h1, h2, h3⟩)
      · exact .inr (.inr h)
    · rintro (h | ⟨_, h1, h2, h3⟩ | h)
      · exact .inl (.inl h)
      · exact .inl (.inr ⟨h1, h2, h3⟩)
      · exact .inr (.inr h)
theorem lit_step {p s : List Int} {x d i j : Int} (h : U.litI p s x d i j) (hi0 : 0 ≤ i) (hd : 0 ≤ d) (hi : i < p.length) (hj : j < s.length) (he : p.getD i.toNat 0 = s.getD j.toNat 0) (h1 : p.getD i.toNat 0 ≠ 42) (h2 : p.getD i.toNat 0 ≠ 37) : U.litI p s x d (i + 1) (j + 1) := by
  obtain ⟨hdj, h⟩ := h
  refine ⟨by omega, fun k k1 k2 k3 => ?_⟩
  obtain ⟨l1, l2, l3⟩ := h k k1 k2 k3
  rw [mAt_lit hi0 hi (by omega) h1 h2] at l2
  obtain ⟨m1, m2, m3⟩ := l2
  refine ⟨by omega, by rw [show k + (j + 1 - d) = k + (j - d) + 1 by omega]; exact m3, fun n n1 n2 => ?_⟩
  by_cases hn : n = j - d
  · rw [hn, ← m2, he, show d + (j - d) = j by omega]
  · exact l3 n n1 (by omega)
theorem like_eq {p s : List Int} {a b c d i j : Int} (h : U.likeI p s a b c d i j) (hi : i < p.length) (hj : j < s.length) (he : p.getD i.toNat 0 = s.getD j.toNat 0) (h1 : p.getD i.toNat 0 ≠ 42) (h2 : p.getD i.toNat 0 ≠ 37) : U.likeI p s a b c d (i + 1) (j + 1) := by
  obtain ⟨⟨hi0, hi1, hj0, hj1, ha0, ha1, hb0, hb1, hc0, hc1, hd0, hd1, hd2, hac, hpa, hpc⟩, hL, hL2, hS, hm⟩ := h
  refine ⟨⟨by omega, by omega, by omega, by omega, by omega, by omega, by omega, by omega, by omega, by omega, by omega, by omega, by omega, by omega, hpa, hpc⟩, fun h => lit_step (hL h) hi0 hd0 hi hj he h1 h2, fun h h' => lit_step (hL2 h h') hi0 hb0 hi hj he h1 h2, hS, ?_⟩
  rw [hm, mAt_lit hi0 hi hj0 h1 h2]
  simp only [hj, he, true_and]
theorem mAt_no {p s : List Int} {i j : Int} (hi0 : 0 ≤ i) (hj0 : 0 ≤ j) (hj1 : j ≤ s.length) (h1 : i < p.length → p.getD i.toNat 0 ≠ 42) (h2 : i < p.length → p.getD i.toNat 0 ≠ 37) (h3 : i < p.length → j < s.length → p.getD i.toNat 0 ≠ s.getD j.toNat 0) (h4 : j < s.length ∨ i < p.length) : ¬ U.mAt p s i j = true := by
  by_cases hi : i < p.length
  · rw [mAt_lit hi0 hi hj0 (h1 hi) (h2 hi)]
    rintro ⟨a1, a2, a3⟩; exact h3 hi a1 a2
  · rw [mAt_end hj0 hj1 (by omega)]; omega
theorem like_again {p s : List Int} {a b c d i j : Int} (h : U.likeI p s a b c d i j) (hn : ¬ U.mAt p s i j = true) (hc : c ≥ 0) (hd : d < s.length) (hs : s.getD d.toNat 0 ≠ 47) : U.likeI p s a b c (d + 1) (c + 1) (d + 1) := by
  obtain ⟨⟨hi0, hi1, hj0, hj1, ha0, ha1, hb0, hb1, hc0, hc1, hd0, hd1, hd2, hac, hpa, hpc⟩, hL, hL2, hS, hm⟩ := h
  refine ⟨⟨by omega, by omega, by omega, by omega, by omega, by omega, by omega, by omega, by omega, by omega, by omega, by omega, by omega, by omega, hpa, hpc⟩, fun _ => ?_, fun _ h => by omega, fun h1 _ t t1 t2 t3 => ?_, ?_⟩
  · refine ⟨by omega, fun k k1 k2 k3 => ⟨by omega, ?_, fun n n1 n2 => by omega⟩⟩
    rw [show k + (d + 1 - (d + 1)) = k by omega]; exact k3
  · obtain ⟨k, k1, k2, k3⟩ := hS h1 hc t t1 t2 t3
    refine ⟨k, ?_, k2, k3⟩
    by_cases hk : k = d
    · exfalso; apply hn
      have := ((hL hc).2 k (by omega) k2 k3).2.1
      rw [hk, show d + (j - d) = j by omega] at this; exact this
    · omega
  · rw [hm, mAt_part (i := c) (j := d + 1) (by omega) (by omega) (by omega) (hpc hc)]
    constructor
    · rintro (h | ⟨_, _, _, h⟩ | h)
      · exact absurd h hn
      · rcases h with h | ⟨h1, h2, h3⟩
        · exact .inl h
        · exact .inr (.inl ⟨hc, h1, h2, h3⟩)
      · exact .inr (.inr h)
    · rintro (h | ⟨_, h1, h2, h3⟩ | h)
      · exact .inr (.inl ⟨hc, hd, hs, .inl h⟩)
      · exact .inr (.inl ⟨hc, hd, hs, .inr ⟨h1, h2, h3⟩⟩)
      · exact .inr (.inr h)
theorem like_back {p s : List Int} {a b c d i j : Int} (h : U.likeI p s a b c d i j) (hn : ¬ U.mAt p s i j = true) (hc : c ≥ 0 → d < s.length → s.getD d.toNat 0 = 47) (ha : a ≥ 0) (hb : b < s.length) : U.likeI p s a (b + 1) (-1) 0 (a + 1) (b + 1) := by
  obtain ⟨⟨hi0, hi1, hj0, hj1, ha0, ha1, hb0, hb1, hc0, hc1, hd0, hd1, hd2, hac, hpa, hpc⟩, hL, hL2, hS, hm⟩ := h
  refine ⟨⟨by omega, by omega, by omega, by omega, by omega, by omega, by omega, by omega, by omega, by omega, by omega, by omega, by omega, by omega, hpa, by omega⟩, by omega, fun _ _ => ?_, by omega, ?_⟩
  · refine ⟨by omega, fun k k1 k2 k3 => ⟨by omega, ?_, fun n n1 n2 => by omega⟩⟩
    rw [show k + (b + 1 - (b + 1)) = k by omega]; exact k3
  · rw [hm, mAt_star (i := a) (j := b + 1) (by omega) (by omega) (by omega) (hpa ha)]
    constructor
    · rintro (h | ⟨h1, h2, h3, _⟩ | ⟨_, _, h⟩)
      · exact absurd h hn
      · exact absurd (hc h1 h2) h3
      · rcases h with h | ⟨h1, h2⟩
        · exact .inl h
        · exact .inr (.inr ⟨ha, h1, h2⟩)
    · rintro (h | ⟨h1, h2⟩ | ⟨_, h1, h2⟩)
      · exact .inr (.inr ⟨ha, hb, .inl h⟩)
      · omega
      · exact .inr (.inr ⟨ha, hb, .inr ⟨h1, h2⟩⟩)
theorem like_none {p s : List Int} {a b c d i j : Int} (h : U.likeI p s a b c d i j) (hn : ¬ U.mAt p s i j = true) (hc : c ≥ 0 → d < s.length → s.getD d.toNat 0 = 47) (ha : a ≥ 0 → ¬ b < s.length) : U.matchP p s = false := by
  obtain ⟨_, hL, hL2, hS, hm⟩ := h
  rw [Bool.eq_false_iff, Ne, hm]
  rintro (h | ⟨h1, h2, h3, _⟩ | ⟨h1, h2, _⟩)
  · exact hn h
  · exact h3 (hc h1 h2)
  · exact ha h1 h2
theorem like_all {p s : List Int} {a b c d i j : Int} (h : U.likeI p s a b c d i j) (hi : ¬ i < p.length) (hj : ¬ j < s.length) : U.matchP p s = true := by
  obtain ⟨⟨hi0, hi1, hj0, hj1, _⟩, hL, hL2, hS, hm⟩ := h
  exact hm.2 (.inl ((mAt_end hj0 hj1 (by omega)).2 (by omega)))
theorem okname_like (p s : List Int) (hp : p.length ≤ 80) (hs : s.length ≤ 40) : vcname_like p s := by
  unfold vcname_like
  simp only [cond_prop, cond_and, cond_or, int_add, int_neg, int_sub, int_mul, wrap_i64, decide_eq_true_eq, decide_eq_false_iff_not, U.Iname_like_3, Bool.and_eq_true, Bool.or_eq_true, Bool.and_eq_false_iff, Bool.or_eq_false_iff]
  refine ⟨(-1, 0, -1, 0, 0, 0), ⟨rfl, hp, hs, like_init p s⟩, ?_⟩
  rintro ⟨a, b, c, d, i, j⟩ ⟨_, _, h⟩
  simp only [] at *
  obtain ⟨hi0, hi1, hj0, hj1, ha0, ha1, hb0, hb1, hc0, hc1, hd0, hd1, hd2, hac, hpa, hpc⟩ := h.1
  have wr : ∀ x : Int, -1 ≤ x → x ≤ 100 → (x + 1 + 9223372036854775808) % 18446744073709551616 - 9223372036854775808 = x + 1 := fun x _ _ => by omega
  rw [wr i (by omega) (by omega), wr j (by omega) (by omega), wr d (by omega) (by omega), wr c (by omega) (by omega), wr a (by omega) (by omega), wr b (by omega) (by omega)]
  refine ⟨fun hne => ⟨fun _ => hi0, fun h => h, fun hh => ⟨(i, j, -1, 0, i + 1, j), rfl, ⟨hp, hs, like_star h hh.1 hh.2⟩, ?_⟩, fun n1 => ⟨fun _ => hi0, fun h => h, fun hh => ⟨(a, b, i, j, i + 1, j), rfl, ⟨hp, hs, like_part h hh.1 hh.2⟩, ?_⟩, fun n2 => ⟨fun _ => hi0, fun h => h.1, fun _ => hj0, fun h => h.2, fun hh => ?_, fun n3 => ?_⟩⟩⟩, fun hh => ⟨(like_all h hh.2 hh.1).symm, trivial⟩⟩
  · show Int.toNat ((((((p.length : Int) - i) * 100 + (s.length - j)) * 100 + (p.length - -1)) * 100 + (s.length - 0)) * 100 + (p.length - (i + 1))) < _
    omega
  · show Int.toNat ((((((p.length : Int) - a) * 100 + (s.length - b)) * 100 + (p.length - i)) * 100 + (s.length - j)) * 100 + (p.length - (i + 1))) < _
    omega
  · have q1 : p.getD i.toNat 0 ≠ 42 := by rcases n1 with h | h; exact absurd hh.1.1 h; exact h
    have q2 : p.getD i.toNat 0 ≠ 37 := by rcases n2 with h | h; exact absurd hh.1.1 h; exact h
    refine ⟨(a, b, c, d, i + 1, j + 1), rfl, ⟨hp, hs, like_eq h hh.1.1 hh.1.2 hh.2 q1 q2⟩, ?_⟩
    show Int.toNat ((((((p.length : Int) - a) * 100 + (s.length - b)) * 100 + (p.length - c)) * 100 + (s.length - d)) * 100 + (p.length - (i + 1))) < _
    omega
  · have hno : ¬ U.mAt p s i j = true := mAt_no hi0 hj0 hj1 (fun h => by rcases n1 with q | q; exact absurd h q; exact q) (fun h => by rcases n2 with q | q; exact absurd h q; exact q) (fun h1 h2 => by rcases n3 with (q | q) | q; exact absurd h1 q; exact absurd h2 q; exact q) hne
    refine ⟨fun _ => hd0, fun h => h.2, fun hh => ⟨(a, b, c, d + 1, c + 1, d + 1), rfl, ⟨hp, hs, like_again h hno hh.1.1 hh.1.2 (by simpa using hh.2)⟩, ?_⟩, fun n4 => ?_⟩
    · show Int.toNat ((((((p.length : Int) - a) * 100 + (s.length - b)) * 100 + (p.length - c)) * 100 + (s.length - (d + 1))) * 100 + (p.length - (c + 1))) < _
      omega
    · have hc : c ≥ 0 → d < s.length → s.getD d.toNat 0 = 47 := by
        intro h1 h2
        rcases n4 with (q | q) | q
        · exact absurd h1 q
        · exact absurd h2 q
        · simpa using q
      refine ⟨fun hh => ⟨(a, b + 1, -1, 0, a + 1, b + 1), rfl, ⟨hp, hs, like_back h hno hc hh.1 hh.2⟩, ?_⟩, fun n5 => ⟨(like_none h hno hc (fun h1 h2 => by rcases n5 with q | q; exact q h1; exact q h2)).symm, trivial⟩⟩
      show Int.toNat ((((((p.length : Int) - a) * 100 + (s.length - (b + 1))) * 100 + (p.length - -1)) * 100 + (s.length - 0)) * 100 + (p.length - (a + 1))) < _
      omega
end Go.Proofs.YtaaonbnjghjhlaaDoor
/- The functions' summaries hold of the program. -/
set_option linter.unusedSimpArgs false
set_option maxRecDepth 100000
set_option linter.unusedVariables false
namespace Go.Proofs.YtaaonbnjghjhlaaDoor
open Go.Vc
theorem wname_odd (x : DenL [.int .u8]) : Owes Tryd.prog (cfgOf Qslices_Index_string_string) (Lname_odd x) 32 (argVs [.int .u8] x) [] (dname_odd x) = vcname_odd x := by kernel_rfl
theorem qname_odd : Pok 32 [.int .u8] (fun x => dname_odd x) := by
  refine pk (L := fun x => Lname_odd x) (l := Qslices_Index_string_string) aQslices_Index_string_string (fun _ => rfl) ?_
  intro x hv hp
  rw [wname_odd]
  exact okname_odd x 
theorem pname_odd : SumOk Tryd.prog gl 32 sname_odd := qname_odd
theorem aQname_odd : AllOk Qname_odd := .cons pname_odd aQslices_Index_string_string
theorem wname_pattern_1 (x : DenL [.int .u8]) : Owes Tryd.prog (cfgOf Qname_odd) (Lname_pattern_1 x) 38 (argVs [.int .u8] x) [] (dname_pattern_1 x) = vcname_pattern_1 x := by kernel_rfl
theorem qname_pattern_1 : Pok 38 [.int .u8] (fun x => dname_pattern_1 x) := by
  refine pk (L := fun x => Lname_pattern_1 x) (l := Qname_odd) aQname_odd (fun _ => rfl) ?_
  intro x hv hp
  rw [wname_pattern_1]
  exact okname_pattern_1 x 
theorem pname_pattern_1 : SumOk Tryd.prog gl 38 sname_pattern_1 := qname_pattern_1
theorem aQname_pattern_1 : AllOk Qname_pattern_1 := .cons pname_pattern_1 aQname_odd
theorem wslices_ContainsFunc_byte_byteO (l : List Int) : Owes Tryd.prog (cfgOf Qname_pattern_1) (Lslices_ContainsFunc_byte_byteO l) 31 (arslices_ContainsFunc_byte_byteO l) (esslices_ContainsFunc_byte_byteO l) (dslices_ContainsFunc_byte_byteO l) = vcslices_ContainsFunc_byte_byteO l := by kernel_rfl
theorem wslices_ContainsFunc_byte_byteP (l : List Int) : Owes Tryd.prog (cfgOf Qname_pattern_1) (Lslices_ContainsFunc_byte_byteP l) 31 (arslices_ContainsFunc_byte_byteP l) (esslices_ContainsFunc_byte_byteP l) (dslices_ContainsFunc_byte_byteP l) = vcslices_ContainsFunc_byte_byteP l := by kernel_rfl
theorem qslices_ContainsFunc_byte_byte : GenOk Tryd.prog gl 31 Fslices_ContainsFunc_byte_byte := by
  refine pkg (l := Qname_pattern_1) aQname_pattern_1 (fun args es d h => ?_) (fun args es d h hv he hp => ?_)
  · unfold Fslices_ContainsFunc_byte_byte at h
    rcases orE_some h with h | h
    · obtain ⟨l, rfl, rfl, rfl⟩ := alslices_ContainsFunc_byte_byteO_eq h
      rfl
    rcases orE_some h with h | h
    · obtain ⟨l, rfl, rfl, rfl⟩ := alslices_ContainsFunc_byte_byteP_eq h
      rfl
    cases h
  · unfold Fslices_ContainsFunc_byte_byte at h
    rcases orE_some h with h | h
    · obtain ⟨l, rfl, rfl, rfl⟩ := alslices_ContainsFunc_byte_byteO_eq h
      refine ⟨Lslices_ContainsFunc_byte_byteO l, ?_⟩
      rw [wslices_ContainsFunc_byte_byteO]
      exact okslices_ContainsFunc_byte_byteO l (he _ (.head _)).2
    rcases orE_some h with h | h
    · obtain ⟨l, rfl, rfl, rfl⟩ := alslices_ContainsFunc_byte_byteP_eq h
      refine ⟨Lslices_ContainsFunc_byte_byteP l, ?_⟩
      rw [wslices_ContainsFunc_byte_byteP]
      exact okslices_ContainsFunc_byte_byteP l (he _ (.head _)).2
    cases h
theorem pslices_ContainsFunc_byte_byte : SumOk Tryd.prog gl 31 sslices_ContainsFunc_byte_byte := qslices_ContainsFunc_byte_byte
theorem aQslices_ContainsFunc_byte_byte : AllOk Qslices_ContainsFunc_byte_byte := .cons pslices_ContainsFunc_byte_byte aQname_pattern_1
theorem wname_formed (x : DenL [.str]) : Owes Tryd.prog (cfgOf Qslices_ContainsFunc_byte_byte) (Lname_formed x) 21 (argVs [.str] x) [] (dname_formed x) = vcname_formed x := by kernel_rfl
theorem qname_formed : Pok 21 [.str] (fun x => dname_formed x) := by
  refine pk (L := fun x => Lname_formed x) (l := Qslices_ContainsFunc_byte_byte) aQslices_ContainsFunc_byte_byte (fun _ => rfl) ?_
  intro x hv hp
  rw [wname_formed]
  exact okname_formed x (hp (List.length x ≤ 1000000000000) (by simp [dname_formed]))
theorem pname_formed : SumOk Tryd.prog gl 21 sname_formed := qname_formed
theorem aQname_formed : AllOk Qname_formed := .cons pname_formed aQslices_ContainsFunc_byte_byte
theorem wname_Clean (x : DenL [.str]) : Owes Tryd.prog (cfgOf Qname_formed) (Lname_Clean x) 8 (argVs [.str] x) [] (dname_Clean x) = vcname_Clean x := by kernel_rfl
theorem qname_Clean : Pok 8 [.str] (fun x => dname_Clean x) := by
  refine pk (L := fun x => Lname_Clean x) (l := Qname_formed) aQname_formed (fun _ => rfl) ?_
  intro x hv hp
  rw [wname_Clean]
  exact okname_Clean x hv.1 (hp (List.length x ≤ 1000000000000) (by simp [dname_Clean]))
theorem pname_Clean : SumOk Tryd.prog gl 8 sname_Clean := qname_Clean
theorem aQname_Clean : AllOk Qname_Clean := .cons pname_Clean aQname_formed
theorem wname_Right (x : DenL [.str]) : Owes Tryd.prog (cfgOf Qname_Clean) (Lname_Right x) 10 (argVs [.str] x) [] (dname_Right x) = vcname_Right x := by kernel_rfl
theorem qname_Right : Pok 10 [.str] (fun x => dname_Right x) := by
  refine pk (L := fun x => Lname_Right x) (l := Qname_Clean) aQname_Clean (fun _ => rfl) ?_
  intro x hv hp
  rw [wname_Right]
  exact okname_Right x (hp (List.length x ≤ 1000000000000) (by simp [dname_Right]))
theorem pname_Right : SumOk Tryd.prog gl 10 sname_Right := qname_Right
theorem aQname_Right : AllOk Qname_Right := .cons pname_Right aQname_Clean
theorem wname_Above (x : DenL [.str]) : Owes Tryd.prog (cfgOf Qname_Right) (Lname_Above x) 13 (argVs [.str] x) [] (dname_Above x) = vcname_Above x := by kernel_rfl
theorem qname_Above : Pok 13 [.str] (fun x => dname_Above x) := by
  refine pk (L := fun x => Lname_Above x) (l := Qname_Right) aQname_Right (fun _ => rfl) ?_
  intro x hv hp
  rw [wname_Above]
  exact okname_Above x (hp (List.length x ≤ 1000000000000) (by simp [dname_Above]))
theorem pname_Above : SumOk Tryd.prog gl 13 sname_Above := qname_Above
theorem aQname_Above : AllOk Qname_Above := .cons pname_Above aQname_Right
theorem wname_Below (x : DenL [.str, .str]) : Owes Tryd.prog (cfgOf Qname_Above) (Lname_Below x.1 x.2) 15 (argVs [.str, .str] x) [] (dname_Below x.1 x.2) = vcname_Below x.1 x.2 := by kernel_rfl
theorem qname_Below : Pok 15 [.str, .str] (fun x => dname_Below x.1 x.2) := by
  refine pk (L := fun x => Lname_Below x.1 x.2) (l := Qname_Above) aQname_Above (fun _ => rfl) ?_
  intro x hv hp
  rw [wname_Below]
  exact okname_Below x.1 x.2 (hp (List.length x.1 ≤ 1000000000000) (by simp [dname_Below]))
theorem pname_Below : SumOk Tryd.prog gl 15 sname_Below := qname_Below
theorem aQname_Below : AllOk Qname_Below := .cons pname_Below aQname_Above
theorem wname_pattern (x : DenL [.str]) : Owes Tryd.prog (cfgOf Qname_Below) (Lname_pattern x) 26 (argVs [.str] x) [] (dname_pattern x) = vcname_pattern x := by kernel_rfl
theorem qname_pattern : Pok 26 [.str] (fun x => dname_pattern x) := by
  refine pk (L := fun x => Lname_pattern x) (l := Qname_Below) aQname_Below (fun _ => rfl) ?_
  intro x hv hp
  rw [wname_pattern]
  exact okname_pattern x (hp (List.length x ≤ 1000000000000) (by simp [dname_pattern]))
theorem pname_pattern : SumOk Tryd.prog gl 26 sname_pattern := qname_pattern
theorem aQname_pattern : AllOk Qname_pattern := .cons pname_pattern aQname_Below
theorem wname_like (x : DenL [.str, .str]) : Owes Tryd.prog (cfgOf Qname_pattern) (Lname_like x.1 x.2) 27 (argVs [.str, .str] x) [] (dname_like x.1 x.2) = vcname_like x.1 x.2 := by kernel_rfl
theorem qname_like : Pok 27 [.str, .str] (fun x => dname_like x.1 x.2) := by
  refine pk (L := fun x => Lname_like x.1 x.2) (l := Qname_pattern) aQname_pattern (fun _ => rfl) ?_
  intro x hv hp
  rw [wname_like]
  exact okname_like x.1 x.2 (hp (List.length x.1 ≤ 80) (by simp [dname_like])) (hp (List.length x.2 ≤ 40) (by simp [dname_like]))
theorem pname_like : SumOk Tryd.prog gl 27 sname_like := qname_like
theorem aQname_like : AllOk Qname_like := .cons pname_like aQname_pattern
theorem wname_Like (x : DenL [.str, .str]) : Owes Tryd.prog (cfgOf Qname_like) (Lname_Like x.1 x.2) 17 (argVs [.str, .str] x) [] (dname_Like x.1 x.2) = vcname_Like x.1 x.2 := by kernel_rfl
theorem qname_Like : Pok 17 [.str, .str] (fun x => dname_Like x.1 x.2) := by
  refine pk (L := fun x => Lname_Like x.1 x.2) (l := Qname_like) aQname_like (fun _ => rfl) ?_
  intro x hv hp
  rw [wname_Like]
  exact okname_Like x.1 x.2 (hp (List.length x.1 ≤ 1000000000000) (by simp [dname_Like])) (hp (List.length x.2 ≤ 1000000000000) (by simp [dname_Like]))
theorem pname_Like : SumOk Tryd.prog gl 17 sname_Like := qname_Like
theorem aQname_Like : AllOk Qname_Like := .cons pname_Like aQname_like
theorem wname_Join (x : DenL [.str, .str]) : Owes Tryd.prog (cfgOf Qname_Like) (Lname_Join x.1 x.2) 18 (argVs [.str, .str] x) [] (dname_Join x.1 x.2) = vcname_Join x.1 x.2 := by kernel_rfl
theorem qname_Join : Pok 18 [.str, .str] (fun x => dname_Join x.1 x.2) := by
  refine pk (L := fun x => Lname_Join x.1 x.2) (l := Qname_Like) aQname_Like (fun _ => rfl) ?_
  intro x hv hp
  rw [wname_Join]
  exact okname_Join x.1 x.2 (hp (List.length x.1 ≤ 500000000000) (by simp [dname_Join])) (hp (List.length x.2 ≤ 500000000000) (by simp [dname_Join]))
theorem pname_Join : SumOk Tryd.prog gl 18 sname_Join := qname_Join
theorem aQname_Join : AllOk Qname_Join := .cons pname_Join aQname_Like
end Go.Proofs.YtaaonbnjghjhlaaDoor
