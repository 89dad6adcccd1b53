/- What functions of this seat compute, in plain Lean. -/
import Derived.Test.YtkhdeldobekciaaDoorPZ
import Derived.Test.YtkhdeldobekciaaDoorPVcF
import Derived.Test.YtkhdeldobekciaaDoorPS
set_option linter.unusedVariables false
set_option linter.unusedSimpArgs false
set_option maxRecDepth 100000
namespace Go.Proofs.YtkhdeldobekciaaDoor
open Go.Vc
abbrev Fz : Ty := .slice .str
namespace U
def split (c : Int) : List Int -> List (List Int)
 | [] => [[]]
 | x :: r => if x = c then [] :: split c r else (x :: (split c r).headD []) :: (split c r).tail
def wU (x : List Int) : List (List Int) -> Int -> Int
 | [], _ => -1
 | y :: r, i => if y = x then i else wU x r (i + 1)
end U
namespace U
def dD (s t : List Int) (r : List Int) (sv : Int) (n : Int) (a : List (List Int)) (i : Int) : St2 := ⟨⟨[sS r] ++ [sS t] ++ [sI sv] ++ [sI n] ++ U.n 5 ++ [own 0] ++ [sI i] ++ U.n 55, [], [(0, .row 9 .str true true a)]⟩, 1, []⟩
def dN (s t : List Int)  (r : List Int) (sv : Int) (n : Int) (a : List (List Int)) (i : Int) : Prop := r.length <= s.length /\ sv = 0 /\ n = iH s (t.getD 0 0) /\ 0 <= i /\ i <= n /\ split (t.getD 0 0) r = (split (t.getD 0 0) s).drop i.toNat /\ a = (split (t.getD 0 0) s).take i.toNat ++ List.replicate (n + 1 - i).toNat []
def dO (l : List (List Int)) (z : List Int) (i : Int) : St2 := ⟨⟨[sL false .str l] ++ [sS z] ++ U.n 5 ++ [sI l.length] ++ [sI i] ++ U.n 10, [], []⟩, 0, []⟩
def dU (l : List (List Int)) (z : List Int)  (i : Int) : Prop := at_ l i /\ wU z (l.drop i.toNat) i = wU z l 0
end U
def Hq (s t : List Int) : Vc.Loop := ⟨{ keep := [0, 1, 2, 3, 9, 10] }, List Int × Int × Int × List (List Int) × Int, fun x => U.dD s t x.1 x.2.1 x.2.2.1 x.2.2.2.1 x.2.2.2.2, fun x0 x => U.dN s t  x.1 x.2.1 x.2.2.1 x.2.2.2.1 x.2.2.2.2, fun x => (x.2.2.1 - x.2.2.2.2).toNat, fun p => ∀ x, p x, fun _ h => h⟩
def wV (l : List (List Int)) (z : List Int) : Vc.Loop := ⟨{ keep := [0, 1, 7, 8] }, Int, fun x => U.dO l z x, fun x0 x => U.dU l z  x, fun x => l.length - x.toNat, fun p => ∀ x, p x, fun _ h => h⟩
def zV : Vc.Sum := .pure [.str, .int .u8] false fun x => acN x.1 x.2
def zW : List (Nat × Ent) := (45, .sum zV) :: []
def kX : Vc.Sum := .pure [.str, .int .u8] false fun x => acN x.1 x.2
def kY : List (Nat × Ent) := (61, .sum kX) :: zW
def Hr : Vc.Sum := .pure [.str, .str] false fun x => ad4 x.1 x.2
def Ht : List (Nat × Ent) := (94, .sum Hr) :: kY
def zX : Vc.Sum := .pure [.str, .str] false fun x => SG x.1 x.2
def lQ : List (Nat × Ent) := (77, .sum zX) :: Ht
def fV (s : List Int) (t : List Int) : Done := ⟨[t.length = 1], .one (.int .i64 (aA s (t.getD 0 0))), [], []⟩
def nV : Vc.Sum := .pure [.str, .str] false fun x => fV x.1 x.2
def nX (s : List Int) (t : List Int) : Nat -> List V -> Nat -> Option Vc.Loop := dw
def fZ : List (Nat × Ent) := (89, .sum nV) :: lQ
def fO (s : List Int) (t : List Int) (sv : Int) (n : Int) : Done := ⟨[t.length = 1, sv = 0, n = -1, s.length <= 1000000000000], .one (.psl true .str (U.split (t.getD 0 0) s)), [], []⟩
def BL : Vc.Sum := .pure [.str, .str, .int .i64, .int .i64] false fun x => fO x.1 x.2.1 x.2.2.1 x.2.2.2
def BM (s : List Int) (t : List Int) (sv : Int) (n : Int) : Nat -> List V -> Nat -> Option Vc.Loop := fun f v k => cond (Nat.beq f 86 && Nat.beq k 11) (some (Hq s t)) <| none
def mY : List (Nat × Ent) := (86, .sum BL) :: fZ
def jq (l : List (List Int)) (z : List Int) : Done := ⟨[], .one (.int .i64 (U.wU z l 0)), [], []⟩
def nY : Vc.Sum := .pure [Fz, .str] false fun x => jq x.1 x.2
def nZ (l : List (List Int)) (z : List Int) : Nat -> List V -> Nat -> Option Vc.Loop := fun f v k => cond (Nat.beq f 87 && Nat.beq k 2) (some (wV l z)) <| none
def gq : List (Nat × Ent) := (87, .sum nY) :: mY
end Go.Proofs.YtkhdeldobekciaaDoor
set_option maxRecDepth 100000
set_option linter.unusedVariables false
namespace Go.Proofs.YtkhdeldobekciaaDoor
open Go.Vc
def je (s : List Int) (t : List Int) : Prop := bif bif decide ((↑t.length : Int) = (0 : Int)) then true else t.beq s then (0 : Int) = aA s (t.getD (0 : Nat) (0 : Int)) /\ True else bif decide ((↑t.length : Int) = (1 : Int)) then (0 : Int) <= (0 : Int) /\ (0 : Int) < (↑t.length : Int) /\ aA s (t.getD (0 : Nat) (0 : Int)) = aA s (t.getD (0 : Nat) (0 : Int)) /\ True else bif
 decide ((↑t.length : Int) >= (↑s.length : Int)) then (-1 : Int) = aA s (t.getD (0 : Nat) (0 : Int)) /\ True else False
def qE (s : List Int) (t : List Int) (sv : Int) (n : Int) : Prop := bif decide (n = (0 : Int)) then [] = U.split (t.getD (0 : Nat) (0 : Int)) s /\ True else bif t.beq [] then False else bif decide (n < (0 : Int)) then t.length = (1 : Nat) /\ (0 : Int) <= bJ (IntKind.i64.wrap ((↑(List.filter (fun (x : Int) => decide (x = t.getD (0 : Nat) (0 : Int))) s).length : Int).add (1 : Int)))
 (IntKind.i64.wrap ((↑s.length : Int).add (1 : Int))) /\ bJ (IntKind.i64.wrap ((↑(List.filter (fun (x : Int) => decide (x = t.getD (0 : Nat) (0 : Int))) s).length : Int).add (1 : Int))) (IntKind.i64.wrap ((↑s.length : Int).add (1 : Int))) <= bJ (IntKind.i64.wrap ((↑(List.filter (fun (x : Int) => decide (x = t.getD (0 : Nat) (0 : Int))) s).length : Int).add (1 : Int))) (IntKind.i64.wrap ((↑s.length
 : Int).add (1 : Int))) /\ (bJ (IntKind.i64.wrap ((↑(List.filter (fun (x : Int) => decide (x = t.getD (0 : Nat) (0 : Int))) s).length : Int).add (1 : Int))) (IntKind.i64.wrap ((↑s.length : Int).add (1 : Int)))).mul (↑(16 : Nat) : Int) <= (140737488355328 : Int) /\ bJ (IntKind.i64.wrap ((↑(List.filter (fun (x : Int) => decide (x = t.getD (0 : Nat) (0 : Int))) s).length : Int).add (1 : Int)))
 (IntKind.i64.wrap ((↑s.length : Int).add (1 : Int))) <= (9223372036854775807 : Int) /\ ∃ (x0 : List Int × Int × Int × List (List Int) × Int), (U.dD s t s sv (IntKind.i64.wrap ((bJ (IntKind.i64.wrap ((↑(List.filter (fun (x : Int) => decide (x = t.getD (0 : Nat) (0 : Int))) s).length : Int).add (1 : Int))) (IntKind.i64.wrap ((↑s.length : Int).add (1 : Int)))).sub (1 : Int)))
 (List.replicate (bJ (IntKind.i64.wrap ((↑(List.filter (fun (x : Int) => decide (x = t.getD (0 : Nat) (0 : Int))) s).length : Int).add (1 : Int))) (IntKind.i64.wrap ((↑s.length : Int).add (1 : Int)))).toNat []) (0 : Int) = U.dD s t x0.1 x0.2.1 x0.2.2.1 x0.2.2.2.1 x0.2.2.2.2 /\ U.dN s t x0.1 x0.2.1 x0.2.2.1 x0.2.2.2.1 x0.2.2.2.2) /\ ∀ (x : List Int × Int × Int ×
 List (List Int) × Int), U.dN s t x.1 x.2.1 x.2.2.1 x.2.2.2.1 x.2.2.2.2 -> bif decide (x.2.2.2.2 < x.2.2.1) then t.length = (1 : Nat) /\ bif decide (aA x.1 (t.getD (0 : Nat) (0 : Int)) < (0 : Int)) then (0 : Int) <= x.2.2.2.2 /\ x.2.2.2.2 < (↑x.2.2.2.1.length : Int) /\ x.2.2.2.2.toNat < x.2.2.2.1.length /\ (0 : Int) <= (0 : Int) /\ (0 : Int) <= IntKind.i64.wrap (x.2.2.2.2.add (1 : Int)) /\
 IntKind.i64.wrap (x.2.2.2.2.add (1 : Int)) <= (↑(x.2.2.2.1.set x.2.2.2.2.toNat x.1).length : Int) /\ List.take ((IntKind.i64.wrap (x.2.2.2.2.add (1 : Int))).toNat.sub (0 : Nat)) (List.drop (0 : Nat) (x.2.2.2.1.set x.2.2.2.2.toNat x.1)) = U.split (t.getD (0 : Nat) (0 : Int)) s /\ True else (0 : Int) <= (0 : Int) /\ (0 : Int) <= IntKind.i64.wrap ((aA x.1 (t.getD (0 : Nat) (0 : Int))).add x.2.1) /\
 IntKind.i64.wrap ((aA x.1 (t.getD (0 : Nat) (0 : Int))).add x.2.1) <= (↑x.1.length : Int) /\ (0 : Int) <= x.2.2.2.2 /\ x.2.2.2.2 < (↑x.2.2.2.1.length : Int) /\ x.2.2.2.2.toNat < x.2.2.2.1.length /\ (0 : Int) <= IntKind.i64.wrap ((aA x.1 (t.getD (0 : Nat) (0 : Int))).add (↑t.length : Int)) /\ IntKind.i64.wrap ((aA x.1 (t.getD (0 : Nat) (0 : Int))).add (↑t.length : Int)) <= (↑x.1.length : Int) /\
 (↑x.1.length : Int) <= (↑x.1.length : Int) /\ ∃ (y : List Int × Int × Int × List (List Int) × Int), U.dD s t (List.take ((↑x.1.length : Int).toNat.sub (IntKind.i64.wrap ((aA x.1 (t.getD (0 : Nat) (0 : Int))).add (↑t.length : Int))).toNat) (List.drop (IntKind.i64.wrap ((aA x.1 (t.getD (0 : Nat) (0 : Int))).add (↑t.length : Int))).toNat x.1)) x.2.1 x.2.2.1 (x.2.2.2.1.set
 x.2.2.2.2.toNat (List.take ((IntKind.i64.wrap ((aA x.1 (t.getD (0 : Nat) (0 : Int))).add x.2.1)).toNat.sub (0 : Nat)) (List.drop (0 : Nat) x.1))) (IntKind.i64.wrap (x.2.2.2.2.add (1 : Int))) = U.dD s t y.1 y.2.1 y.2.2.1 y.2.2.2.1 y.2.2.2.2 /\ U.dN s t y.1 y.2.1 y.2.2.1 y.2.2.2.1 y.2.2.2.2 /\ (y.2.2.1.sub y.2.2.2.2).toNat < (x.2.2.1.sub x.2.2.2.2).toNat else (0 :
 Int) <= x.2.2.2.2 /\ x.2.2.2.2 < (↑x.2.2.2.1.length : Int) /\ x.2.2.2.2.toNat < x.2.2.2.1.length /\ (0 : Int) <= (0 : Int) /\ (0 : Int) <= IntKind.i64.wrap (x.2.2.2.2.add (1 : Int)) /\ IntKind.i64.wrap (x.2.2.2.2.add (1 : Int)) <= (↑(x.2.2.2.1.set x.2.2.2.2.toNat x.1).length : Int) /\ List.take ((IntKind.i64.wrap (x.2.2.2.2.add (1 : Int))).toNat.sub (0 : Nat)) (List.drop (0 : Nat) (x.2.2.2.1.set
 x.2.2.2.2.toNat x.1)) = U.split (t.getD (0 : Nat) (0 : Int)) s /\ True else (0 : Int) <= bJ n (IntKind.i64.wrap ((↑s.length : Int).add (1 : Int))) /\ bJ n (IntKind.i64.wrap ((↑s.length : Int).add (1 : Int))) <= bJ n (IntKind.i64.wrap ((↑s.length : Int).add (1 : Int))) /\ (bJ n (IntKind.i64.wrap ((↑s.length : Int).add (1 : Int)))).mul (↑(16 : Nat) : Int) <= (140737488355328 : Int) /\ bJ n
 (IntKind.i64.wrap ((↑s.length : Int).add (1 : Int))) <= (9223372036854775807 : Int) /\ ∃ (x0 : List Int × Int × Int × List (List Int) × Int), (U.dD s t s sv (IntKind.i64.wrap ((bJ n (IntKind.i64.wrap ((↑s.length : Int).add (1 : Int)))).sub (1 : Int))) (List.replicate (bJ n (IntKind.i64.wrap ((↑s.length : Int).add (1 : Int)))).toNat []) (0 : Int) = U.dD s t
 x0.1 x0.2.1 x0.2.2.1 x0.2.2.2.1 x0.2.2.2.2 /\ U.dN s t x0.1 x0.2.1 x0.2.2.1 x0.2.2.2.1 x0.2.2.2.2) /\ ∀ (x : List Int × Int × Int × List (List Int) × Int), U.dN s t x.1 x.2.1 x.2.2.1 x.2.2.2.1 x.2.2.2.2 -> bif decide (x.2.2.2.2 < x.2.2.1) then t.length = (1 : Nat) /\ bif decide (aA x.1 (t.getD (0 : Nat) (0 : Int)) < (0 : Int)) then (0 : Int) <= x.2.2.2.2 /\ x.2.2.2.2
 < (↑x.2.2.2.1.length : Int) /\ x.2.2.2.2.toNat < x.2.2.2.1.length /\ (0 : Int) <= (0 : Int) /\ (0 : Int) <= IntKind.i64.wrap (x.2.2.2.2.add (1 : Int)) /\ IntKind.i64.wrap (x.2.2.2.2.add (1 : Int)) <= (↑(x.2.2.2.1.set x.2.2.2.2.toNat x.1).length : Int) /\ List.take ((IntKind.i64.wrap (x.2.2.2.2.add (1 : Int))).toNat.sub (0 : Nat)) (List.drop (0 : Nat) (x.2.2.2.1.set x.2.2.2.2.toNat x.1)) = U.split (t.getD
 (0 : Nat) (0 : Int)) s /\ True else (0 : Int) <= (0 : Int) /\ (0 : Int) <= IntKind.i64.wrap ((aA x.1 (t.getD (0 : Nat) (0 : Int))).add x.2.1) /\ IntKind.i64.wrap ((aA x.1 (t.getD (0 : Nat) (0 : Int))).add x.2.1) <= (↑x.1.length : Int) /\ (0 : Int) <= x.2.2.2.2 /\ x.2.2.2.2 < (↑x.2.2.2.1.length : Int) /\ x.2.2.2.2.toNat < x.2.2.2.1.length /\ (0 : Int) <= IntKind.i64.wrap ((aA x.1 (t.getD (0 : Nat) (0 :
 Int))).add (↑t.length : Int)) /\ IntKind.i64.wrap ((aA x.1 (t.getD (0 : Nat) (0 : Int))).add (↑t.length : Int)) <= (↑x.1.length : Int) /\ (↑x.1.length : Int) <= (↑x.1.length : Int) /\ ∃ (y : List Int × Int × Int × List (List Int) × Int), U.dD s t (List.take ((↑x.1.length : Int).toNat.sub (IntKind.i64.wrap ((aA x.1 (t.getD (0 : Nat) (0 : Int))).add (↑t.length : Int))).toNat)
 (List.drop (IntKind.i64.wrap ((aA x.1 (t.getD (0 : Nat) (0 : Int))).add (↑t.length : Int))).toNat x.1)) x.2.1 x.2.2.1 (x.2.2.2.1.set x.2.2.2.2.toNat (List.take ((IntKind.i64.wrap ((aA x.1 (t.getD (0 : Nat) (0 : Int))).add x.2.1)).toNat.sub (0 : Nat)) (List.drop (0 : Nat) x.1))) (IntKind.i64.wrap (x.2.2.2.2.add (1 : Int))) = U.dD s t y.1 y.2.1 y.2.2.1 y.2.2.2.1 y.2.2.2.2 /\
 U.dN s t y.1 y.2.1 y.2.2.1 y.2.2.2.1 y.2.2.2.2 /\ (y.2.2.1.sub y.2.2.2.2).toNat < (x.2.2.1.sub x.2.2.2.2).toNat else (0 : Int) <= x.2.2.2.2 /\ x.2.2.2.2 < (↑x.2.2.2.1.length : Int) /\ x.2.2.2.2.toNat < x.2.2.2.1.length /\ (0 : Int) <= (0 : Int) /\ (0 : Int) <= IntKind.i64.wrap (x.2.2.2.2.add (1 : Int)) /\ IntKind.i64.wrap (x.2.2.2.2.add (1 : Int)) <= (↑(x.2.2.2.1.set x.2.2.2.2.toNat
 x.1).length : Int) /\ List.take ((IntKind.i64.wrap (x.2.2.2.2.add (1 : Int))).toNat.sub (0 : Nat)) (List.drop (0 : Nat) (x.2.2.2.1.set x.2.2.2.2.toNat x.1)) = U.split (t.getD (0 : Nat) (0 : Int)) s /\ True
def jf (l : List (List Int)) (z : List Int) : Prop := ∃ (x0 : Int), (U.dO l z (0 : Int) = U.dO l z x0 /\ U.dU l z x0) /\ ∀ (x : Int), U.dU l z x -> bif decide (x < (↑l.length : Int)) then (0 : Int) <= x /\ x < (↑l.length : Int) /\ bif z.beq (l.getD x.toNat []) then x =
 U.wU z l (0 : Int) /\ True else ∃ (y : Int), U.dO l z (IntKind.i64.wrap (x.add (1 : Int))) = U.dO l z y /\ U.dU l z y /\ l.length.sub y.toNat < l.length.sub x.toNat else (-1 : Int) = U.wU z l (0 : Int) /\ True
end Go.Proofs.YtkhdeldobekciaaDoor
set_option linter.unusedSimpArgs false
set_option linter.unusedVariables false
set_option maxRecDepth 100000
namespace Go.Proofs.YtkhdeldobekciaaDoor
open Go.Vc
open Go.Vc.T
theorem yO (s t : List Int) (h1 : t.length = 1) : je s t := by
 unfold je
 match t, h1 with
 | [c], _ =>
   simp only [cond_prop, dW, jy, decide_eq_true_eq, decide_eq_false_iff_not, fE]
   refine ⟨fun h => ⟨?_, trivial⟩, fun _ => ⟨fun _ => ⟨by omega, by simp, trivial, trivial⟩, fun h => (h (by rfl)).elim⟩⟩
   have h : [c] = s := by simpa using h
   subst h
   simp [aA]
theorem CO (c x : Int) (r : List Int) : U.split c (x :: r) = if x = c then [] :: U.split c r else (x :: (U.split c r).headD []) :: (U.split c r).tail := rfl
theorem vZ (c : Int) : ∀ s, (U.split c s).length = iH s c + 1
 | [] => rfl
 | x :: r => by
   have ih := vZ c r
   rw [CO]
   unfold iH at *
   rw [List.filter_cons]
   by_cases h : x = c
   ·rw [if_pos h, if_pos (by simpa using h), List.length_cons, List.length_cons, ih]
   ·rw [if_neg h, if_neg (by simpa using h), List.length_cons, List.length_tail, ih]; omega
theorem QC (c : Int) : ∀ s, aA s c < 0 -> U.split c s = [s]
 | [], _ => rfl
 | x :: r, h => by
   have hb := jX r c
   unfold aA at h
   by_cases hx : x = c
   ·simp [hx] at h
   ·by_cases hi : aA r c = -1
    ·have ih := QC c r (by omega)
     rw [CO, if_neg hx, ih]; rfl
    ·simp [hx, hi] at h; omega
theorem LY (c : Int) : ∀ (s : List Int), 0 <= aA s c -> U.split c s = s.take (aA s c).toNat :: U.split c (s.drop ((aA s c).toNat + 1))
 | [], h => by simp [aA] at h
 | x :: r, h => by
   have hb := jX r c
   by_cases hx : x = c
   ·simp [CO, aA, hx]
   ·by_cases hi : aA r c = -1
    ·simp [aA, hx, hi] at h
    ·have e : aA (x :: r) c = aA r c + 1 := by simp [aA, hx, hi]
     have ih := LY c r (by omega)
     rw [e, show (aA r c + 1).toNat = (aA r c).toNat + 1 by omega]
     rw [CO, if_neg hx, ih]; rfl
theorem ad5 {α : Type} {a b : List α} {x y : α} {n : Nat} (h : a.length = n) : (a ++ x :: b).set n y = a ++ y :: b := by
 subst h; rw [List.set_append, if_neg (by omega), Nat.sub_self]; rfl
theorem LZ (s t : List Int) (sv n : Int) (h1 : t.length = 1) (h2 : sv = 0) (h3 : n = -1) (h4 : s.length <= 1000000000000) : qE s t sv n := by
 subst h2 h3
 unfold qE
 match t, h1 with
 | [c], _ =>
   have hl := vZ c s
   have hc := abS s c
   have hg : [c].getD 0 0 = c := rfl
   rw [hg, show (List.filter (fun x => decide (x = c)) s).length = iH s c from rfl]
   have w1 : IntKind.i64.wrap (Int.add (iH s c : Int) 1) = (iH s c : Int) + 1 := by rw [wrap_i64, bG]; omega
   have w2 : IntKind.i64.wrap (Int.add (s.length : Int) 1) = (s.length : Int) + 1 := by rw [wrap_i64, bG]; omega
   have w3 : bJ ((iH s c : Int) + 1) ((s.length : Int) + 1) = (iH s c : Int) + 1 := by rw [abP]; omega
   have w4 : IntKind.i64.wrap (Int.sub ((iH s c : Int) + 1) 1) = (iH s c : Int) := by rw [wrap_i64, eF]; omega
   rw [w1, w2, w3, w4, show decide ((-1 : Int) = 0) = false from rfl, show ([c].beq []) = false from rfl, show decide ((-1 : Int) < 0) = true from rfl, cond_false, cond_false, cond_true]
   simp only [cond_prop, decide_eq_true_eq, decide_eq_false_iff_not, bG, eF, gB, bW, U.dN, hg]
   refine ⟨rfl, by omega, by omega, by omega, by omega, (_, _, _, _, _), ⟨rfl, Nat.le_refl _, rfl, rfl, by simp, by simp, rfl, ?_⟩, ?_⟩
   ·simp only []; rw [show ((iH s c : Int) + 1 - 0).toNat = ((iH s c : Int) + 1).toNat by omega]; rfl
   rintro ⟨r, sv, n, a, i⟩ ⟨hrs, e1, e2, h0, h1, hr, ha⟩
   simp only [] at *
   subst e1 e2
   have hal : a.length = iH s c + 1 := by rw [ha, List.length_append, List.length_take, List.length_replicate]; omega
   have hrl := congrArg List.length hr
   rw [List.length_drop, hl, vZ c r] at hrl
   have htl : ((U.split c s).take i.toNat).length = i.toNat := by rw [List.length_take]; omega
   have wi : IntKind.i64.wrap (i + 1) = i + 1 := by rw [wrap_i64]; omega
   have hb := jX r c
   have hrep : List.replicate ((iH s c : Int) + 1 - i).toNat ([] : List Int) = [] :: List.replicate ((iH s c : Int) + 1 - (i + 1)).toNat [] := by
    rw [show ((iH s c : Int) + 1 - i).toNat = ((iH s c : Int) + 1 - (i + 1)).toNat + 1 by omega, List.replicate_succ]
   have fin : i = iH s c -> List.take ((i + 1).toNat - 0) (List.drop 0 (a.set i.toNat r)) = U.split c s := by
    intro hi
    have hri : U.split c r = [r] := by
     refine QC c r ?_
     rcases Int.lt_or_le (aA r c) 0 with h | h
     ·exact h
     ·have := LY c r h
      have h5 := congrArg List.length this
      rw [List.length_cons, vZ, vZ] at h5
      omega
    have hd : U.split c s = (U.split c s).take i.toNat ++ [r] := by
     conv => lhs; rw [<- List.take_append_drop i.toNat (U.split c s), <- hr, hri]
    rw [List.drop_zero, ha, hrep, ad5 htl, show ((iH s c : Int) + 1 - (i + 1)).toNat = 0 by omega, List.replicate_zero, <- hd, List.take_of_length_le (by omega)]
   rw [wi]
   refine ⟨fun hlt => ⟨rfl, fun hneg => ?_, fun hpos => ?_⟩, fun hge => ⟨by omega, by omega, by omega, by omega, by omega, by rw [List.length_set]; omega, fin (by omega), trivial⟩⟩
   ·have := QC c r hneg
    have h5 := congrArg List.length this
    rw [vZ] at h5
    have : [r].length = 1 := rfl
    omega
   ·have hy := LY c r (by omega)
    have v1 : IntKind.i64.wrap (aA r c + 0) = aA r c := by rw [wrap_i64]; omega
    have v2 : IntKind.i64.wrap (aA r c + (([c].length : Nat) : Int)) = aA r c + 1 := by rw [wrap_i64]; show (aA r c + 1 + _) % _ - _ = _; omega
    have hdl : (r.drop (aA r c + 1).toNat).length = r.length - (aA r c + 1).toNat := List.length_drop
    rw [v1, v2, show ((r.length : Int)).toNat = r.length by omega, List.take_of_length_le (l := r.drop (aA r c + 1).toNat) (by omega), List.drop_zero, Nat.sub_zero]
    refine ⟨by omega, by omega, by omega, by omega, by omega, by omega, by omega, by omega, by omega, (_, _, _, _, _), rfl, ⟨by show (r.drop _).length <= _; omega, rfl, rfl, by show 0 <= i + 1; omega, by show i + 1 <= (iH s c : Int); omega, ?_, ?_⟩, ?_⟩
    ·show U.split c (r.drop (aA r c + 1).toNat) = (U.split c s).drop (i + 1).toNat
     have h5 := congrArg (List.drop 1) hr
     rw [hy, List.drop_succ_cons, List.drop_zero, List.drop_drop] at h5
     rw [show (aA r c + 1).toNat = (aA r c).toNat + 1 by omega, h5]; congr 1; omega
    ·show a.set i.toNat (r.take (aA r c).toNat) = (U.split c s).take (i + 1).toNat ++ List.replicate ((iH s c : Int) + 1 - (i + 1)).toNat []
     rw [ha, hrep, ad5 htl, show (i + 1).toNat = i.toNat + 1 by omega, List.take_succ_eq_append_getElem (by omega)]
     have h6 : (U.split c s)[i.toNat] = r.take (aA r c).toNat := by
      have h7 := congrArg (fun l => l[0]?) hr
      simp only [hy, List.getElem?_cons_zero, List.getElem?_drop, Nat.add_zero] at h7
      rw [List.getElem?_eq_getElem (by omega)] at h7
      exact (Option.some.inj h7).symm
     rw [h6]; simp
    ·show ((iH s c : Int) - (i + 1)).toNat < ((iH s c : Int) - i).toNat
     omega
theorem yP (l : List (List Int)) (z : List Int) (hl : l.length <= maxLen) : jf l z := by
 unfold jf
 rw [maxLen_eq] at hl
 simp only [cond_prop, bG, jy, bW, fE, U.dU, U.at_, wrap_i64, decide_eq_true_eq, decide_eq_false_iff_not, beq_iff_eq, beq_eq_false_iff_ne]
 refine ⟨0, ⟨rfl, ⟨by omega, by omega⟩, rfl⟩, ?_⟩
 rintro i ⟨⟨h0, h1⟩, h2⟩
 refine ⟨fun hi => ⟨h0, hi, fun he => ⟨?_, trivial⟩, fun he => ⟨i + 1, ?_, ⟨⟨by omega, by omega⟩, ?_⟩, by omega⟩⟩, fun hi => ⟨?_, trivial⟩⟩
 ·rw [drop_at h0 hi] at h2
  rw [getD_at (by omega)] at he
  rw [<- h2, U.wU, if_pos he.symm]
 ·rw [show (i + 1 + 9223372036854775808) % 18446744073709551616 - 9223372036854775808 = i + 1 by omega]
 ·rw [drop_at h0 hi] at h2
  rw [getD_at (by omega)] at he
  rw [<- h2, U.wU, if_neg (fun h => he h.symm)]
 ·rw [drop_end (by omega)] at h2
  rw [<- h2]; rfl
end Go.Proofs.YtkhdeldobekciaaDoor
set_option linter.unusedSimpArgs false
set_option maxRecDepth 100000
set_option linter.unusedVariables false
namespace Go.Proofs.YtkhdeldobekciaaDoor
open Go.Vc
theorem L6 : aY Tryd.prog gl 45 zV := abR (fn := Tryd.f45) (by kernel_rfl) (by kernel_rfl) (by kernel_rfl) Tryd.strings_IndexByte
theorem KF : aS zW := .cons L6 agk
theorem wB : aY Tryd.prog gl 61 kX := abR (fn := Tryd.f61) (by kernel_rfl) (by kernel_rfl) (by kernel_rfl) Tryd.stringslite_IndexByte
theorem vk : aS kY := .cons wB KF
theorem UL : aY Tryd.prog gl 94 Hr := aeU (fn := Tryd.f94) (by kernel_rfl) (by kernel_rfl) (by kernel_rfl) Tryd.strings_Count_one
theorem SH : aS Ht := .cons UL vk
theorem L8 : aY Tryd.prog gl 77 zX := YV (fn := Tryd.f77) (by kernel_rfl) (by kernel_rfl) (by kernel_rfl) Tryd.strings_EqualFold
theorem yj : aS lQ := .cons L8 SH
theorem zY (x : aI [.str, .str]) : bM Tryd.prog (aU lQ) (nX x.1 x.2) 89 (bK [.str, .str] x) [] (fV x.1 x.2) = je x.1 x.2 := by kernel_rfl
theorem zZ : Pok 89 [.str, .str] (fun x => fV x.1 x.2) := by
 refine pk (L := fun x => nX x.1 x.2) (l := lQ) yj (fun _ => rfl) ?_
 intro x hv hp
 rw [zY]
 exact yO x.1 x.2 (hp (List.length x.2 = 1) (by simp [fV]))
theorem Aa : aY Tryd.prog gl 89 nV := zZ
theorem nJ : aS fZ := .cons Aa yj
theorem OU (x : aI [.str, .str, .int .i64, .int .i64]) : bM Tryd.prog (aU fZ) (BM x.1 x.2.1 x.2.2.1 x.2.2.2) 86 (bK [.str, .str, .int .i64, .int .i64] x) [] (fO x.1 x.2.1 x.2.2.1 x.2.2.2) = qE x.1 x.2.1 x.2.2.1 x.2.2.2 := by kernel_rfl
theorem OV : Pok 86 [.str, .str, .int .i64, .int .i64] (fun x => fO x.1 x.2.1 x.2.2.1 x.2.2.2) := by
 refine pk (L := fun x => BM x.1 x.2.1 x.2.2.1 x.2.2.2) (l := fZ) nJ (fun _ => rfl) ?_
 intro x hv hp
 rw [OU]
 exact LZ x.1 x.2.1 x.2.2.1 x.2.2.2 (hp (List.length x.2.1 = 1) (by simp [fO])) (hp (x.2.2.1 = 0) (by simp [fO])) (hp (x.2.2.2 = -1) (by simp [fO])) (hp (List.length x.1 <= 1000000000000) (by simp [fO]))
theorem OW : aY Tryd.prog gl 86 BL := OV
theorem Ac : aS mY := .cons OW nJ
theorem Ad (x : aI [Fz, .str]) : bM Tryd.prog (aU mY) (nZ x.1 x.2) 87 (bK [Fz, .str] x) [] (jq x.1 x.2) = jf x.1 x.2 := by kernel_rfl
theorem Ae : Pok 87 [Fz, .str] (fun x => jq x.1 x.2) := by
 refine pk (L := fun x => nZ x.1 x.2) (l := mY) Ac (fun _ => rfl) ?_
 intro x hv hp
 rw [Ad]
 exact yP x.1 x.2 hv.1.2
theorem Af : aY Tryd.prog gl 87 nY := Ae
theorem nK : aS gq := .cons Af Ac
end Go.Proofs.YtkhdeldobekciaaDoor
