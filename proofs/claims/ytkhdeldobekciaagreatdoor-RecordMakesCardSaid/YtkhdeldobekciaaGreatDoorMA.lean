/- What functions of this seat compute, in plain Lean. -/
import Derived.Test.YtkhdeldobekciaaGreatDoorMZ
import Derived.Test.YtkhdeldobekciaaGreatDoorMVcF
import Derived.Test.YtkhdeldobekciaaGreatDoorMS
set_option linter.unusedVariables false
set_option linter.unusedSimpArgs false
set_option maxRecDepth 100000
namespace Go.Proofs.YtkhdeldobekciaaGreatDoor
open Go.Vc
abbrev II : Ty := .slice .str
namespace U
def split (c : Int) : List Int -> List (List Int)
 | [] => [[]]
 | x :: r => if x = c then [] :: split c r else (x :: (split c r).headD []) :: (split c r).tail
def yM (x : List Int) : List (List Int) -> Int -> Int
 | [], _ => -1
 | y :: r, i => if y = x then i else yM x r (i + 1)
end U
namespace U
def dH (s t : List Int) (r : List Int) (sv : Int) (n : Int) (a : List (List Int)) (i : Int) : St2 := ⟨⟨[sS r] ++ [sS t] ++ [sI sv] ++ [sI n] ++ U.n 5 ++ [own 0] ++ [sI i] ++ U.n 55, [], [(0, .row 9 .str true true a)]⟩, 1, []⟩
def dP (s t : List Int)  (r : List Int) (sv : Int) (n : Int) (a : List (List Int)) (i : Int) : Prop := r.length <= s.length /\ sv = 0 /\ n = iK s (t.getD 0 0) /\ 0 <= i /\ i <= n /\ split (t.getD 0 0) r = (split (t.getD 0 0) s).drop i.toNat /\ a = (split (t.getD 0 0) s).take i.toNat ++ List.replicate (n + 1 - i).toNat []
def dQ (l : List (List Int)) (z : List Int) (i : Int) : St2 := ⟨⟨[sL false .str l] ++ [sS z] ++ U.n 5 ++ [sI l.length] ++ [sI i] ++ U.n 10, [], []⟩, 0, []⟩
def dV (l : List (List Int)) (z : List Int)  (i : Int) : Prop := at_ l i /\ yM z (l.drop i.toNat) i = yM z l 0
end U
def J3 (s t : List Int) : Vc.Loop := ⟨{ keep := [0, 1, 2, 3, 9, 10] }, List Int × Int × Int × List (List Int) × Int, fun x => U.dH s t x.1 x.2.1 x.2.2.1 x.2.2.2.1 x.2.2.2.2, fun x0 x => U.dP s t  x.1 x.2.1 x.2.2.1 x.2.2.2.1 x.2.2.2.2, fun x => (x.2.2.1 - x.2.2.2.2).toNat⟩
def yN (l : List (List Int)) (z : List Int) : Vc.Loop := ⟨{ keep := [0, 1, 7, 8] }, Int, fun x => U.dQ l z x, fun x0 x => U.dV l z  x, fun x => l.length - x.toNat⟩
def BZ : Vc.Sum := .pure [.str, .int .u8] false fun x => agf x.1 x.2
def Cb : List (Nat × Ent) := (61, .sum BZ) :: []
def lD : Vc.Sum := .pure [.str, .int .u8] false fun x => agf x.1 x.2
def lF : List (Nat × Ent) := (83, .sum lD) :: Cb
def J4 : Vc.Sum := .pure [.str, .str] false fun x => ahH x.1 x.2
def J5 : List (Nat × Ent) := (119, .sum J4) :: lF
def Cc : Vc.Sum := .pure [.str, .str] false fun x => V9 x.1 x.2
def l7 : List (Nat × Ent) := (101, .sum Cc) :: J5
def gu (s : List Int) (t : List Int) : Done := ⟨[t.length = 1], .one (.int .i64 (aA s (t.getD 0 0))), [], []⟩
def oZ : Vc.Sum := .pure [.str, .str] false fun x => gu x.1 x.2
def o7 (s : List Int) (t : List Int) : Nat -> List V -> Nat -> Option Vc.Loop := bZ
def gy : List (Nat × Ent) := (114, .sum oZ) :: l7
def fU (s : List Int) (t : List Int) (sv : Int) (n : Int) : Done := ⟨[t.length = 1, sv = 0, n = -1, s.length <= 1000000000000], .one (.psl true .str (U.split (t.getD 0 0) s)), [], []⟩
def Eh : Vc.Sum := .pure [.str, .str, .int .i64, .int .i64] false fun x => fU x.1 x.2.1 x.2.2.1 x.2.2.2
def Ei (s : List Int) (t : List Int) (sv : Int) (n : Int) : Nat -> List V -> Nat -> Option Vc.Loop := fun f v k => cond (Nat.beq f 111 && Nat.beq k 11) (some (J3 s t)) <| none
def nR : List (Nat × Ent) := (111, .sum Eh) :: gy
def jB (l : List (List Int)) (z : List Int) : Done := ⟨[], .one (.int .i64 (U.yM z l 0)), [], []⟩
def o8 : Vc.Sum := .pure [II, .str] false fun x => jB x.1 x.2
def o9 (l : List (List Int)) (z : List Int) : Nat -> List V -> Nat -> Option Vc.Loop := fun f v k => cond (Nat.beq f 112 && Nat.beq k 2) (some (yN l z)) <| none
def gB : List (Nat × Ent) := (112, .sum o8) :: nR
end Go.Proofs.YtkhdeldobekciaaGreatDoor
set_option maxRecDepth 100000
set_option linter.unusedVariables false
namespace Go.Proofs.YtkhdeldobekciaaGreatDoor
open Go.Vc
def jh (s : List Int) (t : List Int) : Prop := bif bif decide ((↑t.length : Int) = (0 : Int)) then true else t.beq s then (0 : Int) = aA s (t.getD (0 : Nat) (0 : Int)) /\ True else bif decide ((↑t.length : Int) = (1 : Int)) then (0 : Int) <= (0 : Int) /\ (0 : Int) < (↑t.length : Int) /\ aA s (t.getD (0 : Nat) (0 : Int)) = aA s (t.getD (0 : Nat) (0 : Int)) /\ True else bif
 decide ((↑t.length : Int) >= (↑s.length : Int)) then (-1 : Int) = aA s (t.getD (0 : Nat) (0 : Int)) /\ True else False
def su (s : List Int) (t : List Int) (sv : Int) (n : Int) : Prop := bif decide (n = (0 : Int)) then [] = U.split (t.getD (0 : Nat) (0 : Int)) s /\ True else bif t.beq [] then False else bif decide (n < (0 : Int)) then t.length = (1 : Nat) /\ (0 : Int) <= bJ (IntKind.i64.wrap ((↑(List.filter (fun (x : Int) => decide (x = t.getD (0 : Nat) (0 : Int))) s).length : Int).add (1 : Int)))
 (IntKind.i64.wrap ((↑s.length : Int).add (1 : Int))) /\ bJ (IntKind.i64.wrap ((↑(List.filter (fun (x : Int) => decide (x = t.getD (0 : Nat) (0 : Int))) s).length : Int).add (1 : Int))) (IntKind.i64.wrap ((↑s.length : Int).add (1 : Int))) <= bJ (IntKind.i64.wrap ((↑(List.filter (fun (x : Int) => decide (x = t.getD (0 : Nat) (0 : Int))) s).length : Int).add (1 : Int))) (IntKind.i64.wrap ((↑s.length
 : Int).add (1 : Int))) /\ (bJ (IntKind.i64.wrap ((↑(List.filter (fun (x : Int) => decide (x = t.getD (0 : Nat) (0 : Int))) s).length : Int).add (1 : Int))) (IntKind.i64.wrap ((↑s.length : Int).add (1 : Int)))).mul (↑(16 : Nat) : Int) <= (140737488355328 : Int) /\ bJ (IntKind.i64.wrap ((↑(List.filter (fun (x : Int) => decide (x = t.getD (0 : Nat) (0 : Int))) s).length : Int).add (1 : Int)))
 (IntKind.i64.wrap ((↑s.length : Int).add (1 : Int))) <= (9223372036854775807 : Int) /\ ∃ (x0 : List Int × Int × Int × List (List Int) × Int), (U.dH s t s sv (IntKind.i64.wrap ((bJ (IntKind.i64.wrap ((↑(List.filter (fun (x : Int) => decide (x = t.getD (0 : Nat) (0 : Int))) s).length : Int).add (1 : Int))) (IntKind.i64.wrap ((↑s.length : Int).add (1 : Int)))).sub (1 : Int)))
 (List.replicate (bJ (IntKind.i64.wrap ((↑(List.filter (fun (x : Int) => decide (x = t.getD (0 : Nat) (0 : Int))) s).length : Int).add (1 : Int))) (IntKind.i64.wrap ((↑s.length : Int).add (1 : Int)))).toNat []) (0 : Int) = U.dH s t x0.1 x0.2.1 x0.2.2.1 x0.2.2.2.1 x0.2.2.2.2 /\ U.dP s t x0.1 x0.2.1 x0.2.2.1 x0.2.2.2.1 x0.2.2.2.2) /\ ∀ (x : List Int × Int × Int ×
 List (List Int) × Int), U.dP s t x.1 x.2.1 x.2.2.1 x.2.2.2.1 x.2.2.2.2 -> bif decide (x.2.2.2.2 < x.2.2.1) then t.length = (1 : Nat) /\ bif decide (aA x.1 (t.getD (0 : Nat) (0 : Int)) < (0 : Int)) then (0 : Int) <= x.2.2.2.2 /\ x.2.2.2.2 < (↑x.2.2.2.1.length : Int) /\ x.2.2.2.2.toNat < x.2.2.2.1.length /\ (0 : Int) <= (0 : Int) /\ (0 : Int) <= IntKind.i64.wrap (x.2.2.2.2.add (1 : Int)) /\
 IntKind.i64.wrap (x.2.2.2.2.add (1 : Int)) <= (↑(x.2.2.2.1.set x.2.2.2.2.toNat x.1).length : Int) /\ List.take ((IntKind.i64.wrap (x.2.2.2.2.add (1 : Int))).toNat.sub (0 : Nat)) (List.drop (0 : Nat) (x.2.2.2.1.set x.2.2.2.2.toNat x.1)) = U.split (t.getD (0 : Nat) (0 : Int)) s /\ True else (0 : Int) <= (0 : Int) /\ (0 : Int) <= IntKind.i64.wrap ((aA x.1 (t.getD (0 : Nat) (0 : Int))).add x.2.1) /\
 IntKind.i64.wrap ((aA x.1 (t.getD (0 : Nat) (0 : Int))).add x.2.1) <= (↑x.1.length : Int) /\ (0 : Int) <= x.2.2.2.2 /\ x.2.2.2.2 < (↑x.2.2.2.1.length : Int) /\ x.2.2.2.2.toNat < x.2.2.2.1.length /\ (0 : Int) <= IntKind.i64.wrap ((aA x.1 (t.getD (0 : Nat) (0 : Int))).add (↑t.length : Int)) /\ IntKind.i64.wrap ((aA x.1 (t.getD (0 : Nat) (0 : Int))).add (↑t.length : Int)) <= (↑x.1.length : Int) /\
 (↑x.1.length : Int) <= (↑x.1.length : Int) /\ ∃ (y : List Int × Int × Int × List (List Int) × Int), U.dH s t (List.take ((↑x.1.length : Int).toNat.sub (IntKind.i64.wrap ((aA x.1 (t.getD (0 : Nat) (0 : Int))).add (↑t.length : Int))).toNat) (List.drop (IntKind.i64.wrap ((aA x.1 (t.getD (0 : Nat) (0 : Int))).add (↑t.length : Int))).toNat x.1)) x.2.1 x.2.2.1 (x.2.2.2.1.set
 x.2.2.2.2.toNat (List.take ((IntKind.i64.wrap ((aA x.1 (t.getD (0 : Nat) (0 : Int))).add x.2.1)).toNat.sub (0 : Nat)) (List.drop (0 : Nat) x.1))) (IntKind.i64.wrap (x.2.2.2.2.add (1 : Int))) = U.dH s t y.1 y.2.1 y.2.2.1 y.2.2.2.1 y.2.2.2.2 /\ U.dP s t y.1 y.2.1 y.2.2.1 y.2.2.2.1 y.2.2.2.2 /\ (y.2.2.1.sub y.2.2.2.2).toNat < (x.2.2.1.sub x.2.2.2.2).toNat else (0 :
 Int) <= x.2.2.2.2 /\ x.2.2.2.2 < (↑x.2.2.2.1.length : Int) /\ x.2.2.2.2.toNat < x.2.2.2.1.length /\ (0 : Int) <= (0 : Int) /\ (0 : Int) <= IntKind.i64.wrap (x.2.2.2.2.add (1 : Int)) /\ IntKind.i64.wrap (x.2.2.2.2.add (1 : Int)) <= (↑(x.2.2.2.1.set x.2.2.2.2.toNat x.1).length : Int) /\ List.take ((IntKind.i64.wrap (x.2.2.2.2.add (1 : Int))).toNat.sub (0 : Nat)) (List.drop (0 : Nat) (x.2.2.2.1.set
 x.2.2.2.2.toNat x.1)) = U.split (t.getD (0 : Nat) (0 : Int)) s /\ True else (0 : Int) <= bJ n (IntKind.i64.wrap ((↑s.length : Int).add (1 : Int))) /\ bJ n (IntKind.i64.wrap ((↑s.length : Int).add (1 : Int))) <= bJ n (IntKind.i64.wrap ((↑s.length : Int).add (1 : Int))) /\ (bJ n (IntKind.i64.wrap ((↑s.length : Int).add (1 : Int)))).mul (↑(16 : Nat) : Int) <= (140737488355328 : Int) /\ bJ n
 (IntKind.i64.wrap ((↑s.length : Int).add (1 : Int))) <= (9223372036854775807 : Int) /\ ∃ (x0 : List Int × Int × Int × List (List Int) × Int), (U.dH s t s sv (IntKind.i64.wrap ((bJ n (IntKind.i64.wrap ((↑s.length : Int).add (1 : Int)))).sub (1 : Int))) (List.replicate (bJ n (IntKind.i64.wrap ((↑s.length : Int).add (1 : Int)))).toNat []) (0 : Int) = U.dH s t
 x0.1 x0.2.1 x0.2.2.1 x0.2.2.2.1 x0.2.2.2.2 /\ U.dP s t x0.1 x0.2.1 x0.2.2.1 x0.2.2.2.1 x0.2.2.2.2) /\ ∀ (x : List Int × Int × Int × List (List Int) × Int), U.dP s t x.1 x.2.1 x.2.2.1 x.2.2.2.1 x.2.2.2.2 -> bif decide (x.2.2.2.2 < x.2.2.1) then t.length = (1 : Nat) /\ bif decide (aA x.1 (t.getD (0 : Nat) (0 : Int)) < (0 : Int)) then (0 : Int) <= x.2.2.2.2 /\ x.2.2.2.2
 < (↑x.2.2.2.1.length : Int) /\ x.2.2.2.2.toNat < x.2.2.2.1.length /\ (0 : Int) <= (0 : Int) /\ (0 : Int) <= IntKind.i64.wrap (x.2.2.2.2.add (1 : Int)) /\ IntKind.i64.wrap (x.2.2.2.2.add (1 : Int)) <= (↑(x.2.2.2.1.set x.2.2.2.2.toNat x.1).length : Int) /\ List.take ((IntKind.i64.wrap (x.2.2.2.2.add (1 : Int))).toNat.sub (0 : Nat)) (List.drop (0 : Nat) (x.2.2.2.1.set x.2.2.2.2.toNat x.1)) = U.split (t.getD
 (0 : Nat) (0 : Int)) s /\ True else (0 : Int) <= (0 : Int) /\ (0 : Int) <= IntKind.i64.wrap ((aA x.1 (t.getD (0 : Nat) (0 : Int))).add x.2.1) /\ IntKind.i64.wrap ((aA x.1 (t.getD (0 : Nat) (0 : Int))).add x.2.1) <= (↑x.1.length : Int) /\ (0 : Int) <= x.2.2.2.2 /\ x.2.2.2.2 < (↑x.2.2.2.1.length : Int) /\ x.2.2.2.2.toNat < x.2.2.2.1.length /\ (0 : Int) <= IntKind.i64.wrap ((aA x.1 (t.getD (0 : Nat) (0 :
 Int))).add (↑t.length : Int)) /\ IntKind.i64.wrap ((aA x.1 (t.getD (0 : Nat) (0 : Int))).add (↑t.length : Int)) <= (↑x.1.length : Int) /\ (↑x.1.length : Int) <= (↑x.1.length : Int) /\ ∃ (y : List Int × Int × Int × List (List Int) × Int), U.dH s t (List.take ((↑x.1.length : Int).toNat.sub (IntKind.i64.wrap ((aA x.1 (t.getD (0 : Nat) (0 : Int))).add (↑t.length : Int))).toNat)
 (List.drop (IntKind.i64.wrap ((aA x.1 (t.getD (0 : Nat) (0 : Int))).add (↑t.length : Int))).toNat x.1)) x.2.1 x.2.2.1 (x.2.2.2.1.set x.2.2.2.2.toNat (List.take ((IntKind.i64.wrap ((aA x.1 (t.getD (0 : Nat) (0 : Int))).add x.2.1)).toNat.sub (0 : Nat)) (List.drop (0 : Nat) x.1))) (IntKind.i64.wrap (x.2.2.2.2.add (1 : Int))) = U.dH s t y.1 y.2.1 y.2.2.1 y.2.2.2.1 y.2.2.2.2 /\
 U.dP s t y.1 y.2.1 y.2.2.1 y.2.2.2.1 y.2.2.2.2 /\ (y.2.2.1.sub y.2.2.2.2).toNat < (x.2.2.1.sub x.2.2.2.2).toNat else (0 : Int) <= x.2.2.2.2 /\ x.2.2.2.2 < (↑x.2.2.2.1.length : Int) /\ x.2.2.2.2.toNat < x.2.2.2.1.length /\ (0 : Int) <= (0 : Int) /\ (0 : Int) <= IntKind.i64.wrap (x.2.2.2.2.add (1 : Int)) /\ IntKind.i64.wrap (x.2.2.2.2.add (1 : Int)) <= (↑(x.2.2.2.1.set x.2.2.2.2.toNat
 x.1).length : Int) /\ List.take ((IntKind.i64.wrap (x.2.2.2.2.add (1 : Int))).toNat.sub (0 : Nat)) (List.drop (0 : Nat) (x.2.2.2.1.set x.2.2.2.2.toNat x.1)) = U.split (t.getD (0 : Nat) (0 : Int)) s /\ True
def ji (l : List (List Int)) (z : List Int) : Prop := ∃ (x0 : Int), (U.dQ l z (0 : Int) = U.dQ l z x0 /\ U.dV l z x0) /\ ∀ (x : Int), U.dV l z x -> bif decide (x < (↑l.length : Int)) then (0 : Int) <= x /\ x < (↑l.length : Int) /\ bif z.beq (l.getD x.toNat []) then x =
 U.yM z l (0 : Int) /\ True else ∃ (y : Int), U.dQ l z (IntKind.i64.wrap (x.add (1 : Int))) = U.dQ l z y /\ U.dV l z y /\ l.length.sub y.toNat < l.length.sub x.toNat else (-1 : Int) = U.yM z l (0 : Int) /\ True
end Go.Proofs.YtkhdeldobekciaaGreatDoor
set_option linter.unusedSimpArgs false
set_option linter.unusedVariables false
set_option maxRecDepth 100000
namespace Go.Proofs.YtkhdeldobekciaaGreatDoor
open Go.Vc
open Go.Vc.T
theorem Ai (s t : List Int) (h1 : t.length = 1) : jh s t := by
 unfold jh
 match t, h1 with
 | [c], _ =>
   simp only [cond_prop, dN, jG, decide_eq_true_eq, decide_eq_false_iff_not, fJ]
   refine ⟨fun h => ⟨?_, trivial⟩, fun _ => ⟨fun _ => ⟨by omega, by simp, trivial, trivial⟩, fun h => (h (by rfl)).elim⟩⟩
   have h : [c] = s := by simpa using h
   subst h
   simp [aA]
theorem EN (c x : Int) (r : List Int) : U.split c (x :: r) = if x = c then [] :: U.split c r else (x :: (U.split c r).headD []) :: (U.split c r).tail := rfl
theorem yg (c : Int) : ∀ s, (U.split c s).length = iK s c + 1
 | [] => rfl
 | x :: r => by
   have ih := yg c r
   rw [EN]
   unfold iK at *
   rw [List.filter_cons]
   by_cases h : x = c
   ·rw [if_pos h, if_pos (by simpa using h), List.length_cons, List.length_cons, ih]
   ·rw [if_neg h, if_neg (by simpa using h), List.length_cons, List.length_tail, ih]; omega
theorem UD (c : Int) : ∀ s, aA s c < 0 -> U.split c s = [s]
 | [], _ => rfl
 | x :: r, h => by
   have hb := kG r c
   unfold aA at h
   by_cases hx : x = c
   ·simp [hx] at h
   ·by_cases hi : aA r c = -1
    ·have ih := UD c r (by omega)
     rw [EN, if_neg hx, ih]; rfl
    ·simp [hx, hi] at h; omega
theorem O6 (c : Int) : ∀ (s : List Int), 0 <= aA s c -> U.split c s = s.take (aA s c).toNat :: U.split c (s.drop ((aA s c).toNat + 1))
 | [], h => by simp [aA] at h
 | x :: r, h => by
   have hb := kG r c
   by_cases hx : x = c
   ·simp [EN, aA, hx]
   ·by_cases hi : aA r c = -1
    ·simp [aA, hx, hi] at h
    ·have e : aA (x :: r) c = aA r c + 1 := by simp [aA, hx, hi]
     have ih := O6 c r (by omega)
     rw [e, show (aA r c + 1).toNat = (aA r c).toNat + 1 by omega]
     rw [EN, if_neg hx, ih]; rfl
theorem ahI {α : Type} {a b : List α} {x y : α} {n : Nat} (h : a.length = n) : (a ++ x :: b).set n y = a ++ y :: b := by
 subst h; rw [List.set_append, if_neg (by omega), Nat.sub_self]; rfl
theorem O7 (s t : List Int) (sv n : Int) (h1 : t.length = 1) (h2 : sv = 0) (h3 : n = -1) (h4 : s.length <= 1000000000000) : su s t sv n := by
 subst h2 h3
 unfold su
 match t, h1 with
 | [c], _ =>
   have hl := yg c s
   have hc := afm s c
   have hg : [c].getD 0 0 = c := rfl
   rw [hg, show (List.filter (fun x => decide (x = c)) s).length = iK s c from rfl]
   have w1 : IntKind.i64.wrap (Int.add (iK s c : Int) 1) = (iK s c : Int) + 1 := by rw [wrap_i64, aX]; omega
   have w2 : IntKind.i64.wrap (Int.add (s.length : Int) 1) = (s.length : Int) + 1 := by rw [wrap_i64, aX]; omega
   have w3 : bJ ((iK s c : Int) + 1) ((s.length : Int) + 1) = (iK s c : Int) + 1 := by rw [afj]; omega
   have w4 : IntKind.i64.wrap (Int.sub ((iK s c : Int) + 1) 1) = (iK s c : Int) := by rw [wrap_i64, dK]; omega
   rw [w1, w2, w3, w4, show decide ((-1 : Int) = 0) = false from rfl, show ([c].beq []) = false from rfl, show decide ((-1 : Int) < 0) = true from rfl, cond_false, cond_false, cond_true]
   simp only [cond_prop, decide_eq_true_eq, decide_eq_false_iff_not, aX, dK, eF, bP, U.dP, hg]
   refine ⟨rfl, by omega, by omega, by omega, by omega, (_, _, _, _, _), ⟨rfl, Nat.le_refl _, rfl, rfl, by simp, by simp, rfl, ?_⟩, ?_⟩
   ·simp only []; rw [show ((iK s c : Int) + 1 - 0).toNat = ((iK s c : Int) + 1).toNat by omega]; rfl
   rintro ⟨r, sv, n, a, i⟩ ⟨hrs, e1, e2, h0, h1, hr, ha⟩
   simp only [] at *
   subst e1 e2
   have hal : a.length = iK s c + 1 := by rw [ha, List.length_append, List.length_take, List.length_replicate]; omega
   have hrl := congrArg List.length hr
   rw [List.length_drop, hl, yg c r] at hrl
   have htl : ((U.split c s).take i.toNat).length = i.toNat := by rw [List.length_take]; omega
   have wi : IntKind.i64.wrap (i + 1) = i + 1 := by rw [wrap_i64]; omega
   have hb := kG r c
   have hrep : List.replicate ((iK s c : Int) + 1 - i).toNat ([] : List Int) = [] :: List.replicate ((iK s c : Int) + 1 - (i + 1)).toNat [] := by
    rw [show ((iK s c : Int) + 1 - i).toNat = ((iK s c : Int) + 1 - (i + 1)).toNat + 1 by omega, List.replicate_succ]
   have fin : i = iK s c -> List.take ((i + 1).toNat - 0) (List.drop 0 (a.set i.toNat r)) = U.split c s := by
    intro hi
    have hri : U.split c r = [r] := by
     refine UD c r ?_
     rcases Int.lt_or_le (aA r c) 0 with h | h
     ·exact h
     ·have := O6 c r h
      have h5 := congrArg List.length this
      rw [List.length_cons, yg, yg] at h5
      omega
    have hd : U.split c s = (U.split c s).take i.toNat ++ [r] := by
     conv => lhs; rw [<- List.take_append_drop i.toNat (U.split c s), <- hr, hri]
    rw [List.drop_zero, ha, hrep, ahI htl, show ((iK s c : Int) + 1 - (i + 1)).toNat = 0 by omega, List.replicate_zero, <- hd, List.take_of_length_le (by omega)]
   rw [wi]
   refine ⟨fun hlt => ⟨rfl, fun hneg => ?_, fun hpos => ?_⟩, fun hge => ⟨by omega, by omega, by omega, by omega, by omega, by rw [List.length_set]; omega, fin (by omega), trivial⟩⟩
   ·have := UD c r hneg
    have h5 := congrArg List.length this
    rw [yg] at h5
    have : [r].length = 1 := rfl
    omega
   ·have hy := O6 c r (by omega)
    have v1 : IntKind.i64.wrap (aA r c + 0) = aA r c := by rw [wrap_i64]; omega
    have v2 : IntKind.i64.wrap (aA r c + (([c].length : Nat) : Int)) = aA r c + 1 := by rw [wrap_i64]; show (aA r c + 1 + _) % _ - _ = _; omega
    have hdl : (r.drop (aA r c + 1).toNat).length = r.length - (aA r c + 1).toNat := List.length_drop
    rw [v1, v2, show ((r.length : Int)).toNat = r.length by omega, List.take_of_length_le (l := r.drop (aA r c + 1).toNat) (by omega), List.drop_zero, Nat.sub_zero]
    refine ⟨by omega, by omega, by omega, by omega, by omega, by omega, by omega, by omega, by omega, (_, _, _, _, _), rfl, ⟨by show (r.drop _).length <= _; omega, rfl, rfl, by show 0 <= i + 1; omega, by show i + 1 <= (iK s c : Int); omega, ?_, ?_⟩, ?_⟩
    ·show U.split c (r.drop (aA r c + 1).toNat) = (U.split c s).drop (i + 1).toNat
     have h5 := congrArg (List.drop 1) hr
     rw [hy, List.drop_succ_cons, List.drop_zero, List.drop_drop] at h5
     rw [show (aA r c + 1).toNat = (aA r c).toNat + 1 by omega, h5]; congr 1; omega
    ·show a.set i.toNat (r.take (aA r c).toNat) = (U.split c s).take (i + 1).toNat ++ List.replicate ((iK s c : Int) + 1 - (i + 1)).toNat []
     rw [ha, hrep, ahI htl, show (i + 1).toNat = i.toNat + 1 by omega, List.take_succ_eq_append_getElem (by omega)]
     have h6 : (U.split c s)[i.toNat] = r.take (aA r c).toNat := by
      have h7 := congrArg (fun l => l[0]?) hr
      simp only [hy, List.getElem?_cons_zero, List.getElem?_drop, Nat.add_zero] at h7
      rw [List.getElem?_eq_getElem (by omega)] at h7
      exact (Option.some.inj h7).symm
     rw [h6]; simp
    ·show ((iK s c : Int) - (i + 1)).toNat < ((iK s c : Int) - i).toNat
     omega
theorem Aj (l : List (List Int)) (z : List Int) (hl : l.length <= maxLen) : ji l z := by
 unfold ji
 rw [maxLen_eq] at hl
 simp only [cond_prop, aX, jG, bP, fJ, U.dV, U.at_, wrap_i64, decide_eq_true_eq, decide_eq_false_iff_not, beq_iff_eq, beq_eq_false_iff_ne]
 refine ⟨0, ⟨rfl, ⟨by omega, by omega⟩, rfl⟩, ?_⟩
 rintro i ⟨⟨h0, h1⟩, h2⟩
 refine ⟨fun hi => ⟨h0, hi, fun he => ⟨?_, trivial⟩, fun he => ⟨i + 1, ?_, ⟨⟨by omega, by omega⟩, ?_⟩, by omega⟩⟩, fun hi => ⟨?_, trivial⟩⟩
 ·rw [drop_at h0 hi] at h2
  rw [getD_at (by omega)] at he
  rw [<- h2, U.yM, if_pos he.symm]
 ·rw [show (i + 1 + 9223372036854775808) % 18446744073709551616 - 9223372036854775808 = i + 1 by omega]
 ·rw [drop_at h0 hi] at h2
  rw [getD_at (by omega)] at he
  rw [<- h2, U.yM, if_neg (fun h => he h.symm)]
 ·rw [drop_end (by omega)] at h2
  rw [<- h2]; rfl
end Go.Proofs.YtkhdeldobekciaaGreatDoor
set_option linter.unusedSimpArgs false
set_option maxRecDepth 100000
set_option linter.unusedVariables false
namespace Go.Proofs.YtkhdeldobekciaaGreatDoor
open Go.Vc
theorem O8 : aP Tryz.prog gl 61 BZ := afl (fn := Tryz.f61) (by kernel_rfl) (by kernel_rfl) (by kernel_rfl) Tryz.strings_IndexByte
theorem N9 : aI Cb := .cons O8 ake
theorem yu : aP Tryz.prog gl 83 lD := afl (fn := Tryz.f83) (by kernel_rfl) (by kernel_rfl) (by kernel_rfl) Tryz.stringslite_IndexByte
theorem xu : aI lF := .cons yu N9
theorem X7 : aP Tryz.prog gl 119 J4 := aiG (fn := Tryz.f119) (by kernel_rfl) (by kernel_rfl) (by kernel_rfl) Tryz.strings_Count_one
theorem Wh : aI J5 := .cons X7 xu
theorem O9 : aP Tryz.prog gl 101 Cc := abV (fn := Tryz.f101) (by kernel_rfl) (by kernel_rfl) (by kernel_rfl) Tryz.strings_EqualFold
theorem zL : aI l7 := .cons O9 Wh
theorem Ce (x : aG [.str, .str]) : bf Tryz.prog (aK l7) (o7 x.1 x.2) 114 (aY [.str, .str] x) [] (gu x.1 x.2) = jh x.1 x.2 := by kernel_rfl
theorem Ci : Pok 114 [.str, .str] (fun x => gu x.1 x.2) := by
 refine pk (L := fun x => o7 x.1 x.2) (l := l7) zL (fun _ => rfl) ?_
 intro x hv hp
 rw [Ce]
 exact Ai x.1 x.2 (hp (List.length x.2 = 1) (by simp [gu]))
theorem Cj : aP Tryz.prog gl 114 oZ := Ci
theorem oC : aI gy := .cons Cj zL
theorem RP (x : aG [.str, .str, .int .i64, .int .i64]) : bf Tryz.prog (aK gy) (Ei x.1 x.2.1 x.2.2.1 x.2.2.2) 111 (aY [.str, .str, .int .i64, .int .i64] x) [] (fU x.1 x.2.1 x.2.2.1 x.2.2.2) = su x.1 x.2.1 x.2.2.1 x.2.2.2 := by kernel_rfl
theorem RQ : Pok 111 [.str, .str, .int .i64, .int .i64] (fun x => fU x.1 x.2.1 x.2.2.1 x.2.2.2) := by
 refine pk (L := fun x => Ei x.1 x.2.1 x.2.2.1 x.2.2.2) (l := gy) oC (fun _ => rfl) ?_
 intro x hv hp
 rw [RP]
 exact O7 x.1 x.2.1 x.2.2.1 x.2.2.2 (hp (List.length x.2.1 = 1) (by simp [fU])) (hp (x.2.2.1 = 0) (by simp [fU])) (hp (x.2.2.2 = -1) (by simp [fU])) (hp (List.length x.1 <= 1000000000000) (by simp [fU]))
theorem RU : aP Tryz.prog gl 111 Eh := RQ
theorem Cm : aI nR := .cons RU oC
theorem CB (x : aG [II, .str]) : bf Tryz.prog (aK nR) (o9 x.1 x.2) 112 (aY [II, .str] x) [] (jB x.1 x.2) = ji x.1 x.2 := by kernel_rfl
theorem CG : Pok 112 [II, .str] (fun x => jB x.1 x.2) := by
 refine pk (L := fun x => o9 x.1 x.2) (l := nR) Cm (fun _ => rfl) ?_
 intro x hv hp
 rw [CB]
 exact Aj x.1 x.2 hv.1.2
theorem CJ : aP Tryz.prog gl 112 o8 := CG
theorem oD : aI gB := .cons CJ Cm
end Go.Proofs.YtkhdeldobekciaaGreatDoor
