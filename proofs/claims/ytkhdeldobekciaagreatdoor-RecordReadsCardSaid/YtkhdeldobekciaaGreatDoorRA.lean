/- What functions of this seat compute, in plain Lean. -/
import Derived.Test.YtkhdeldobekciaaGreatDoorRZ
import Derived.Test.YtkhdeldobekciaaGreatDoorRVcF
import Derived.Test.YtkhdeldobekciaaGreatDoorRS
set_option linter.unusedVariables false
set_option linter.unusedSimpArgs false
set_option maxRecDepth 100000
namespace Go.Proofs.YtkhdeldobekciaaGreatDoor
open Go.Vc
abbrev J4 : Ty := .slice .str
namespace U
def split (c : Int) : List Int -> List (List Int)
 | [] => [[]]
 | x :: r => if x = c then [] :: split c r else (x :: (split c r).headD []) :: (split c r).tail
def zO (x : List Int) : List (List Int) -> Int -> Int
 | [], _ => -1
 | y :: r, i => if y = x then i else zO x r (i + 1)
end U
namespace U
def dR (s t : List Int) (r : List Int) (sv : Int) (n : Int) (a : List (List Int)) (i : Int) : St2 := ⟨⟨[sS r] ++ [sS t] ++ [sI sv] ++ [sI n] ++ U.n 5 ++ [own 0] ++ [sI i] ++ U.n 55, [], [(0, .row 9 .str true true a)]⟩, 1, []⟩
def eF (s t : List Int)  (r : List Int) (sv : Int) (n : Int) (a : List (List Int)) (i : Int) : Prop := r.length <= s.length /\ sv = 0 /\ n = iU s (t.getD 0 0) /\ 0 <= i /\ i <= n /\ split (t.getD 0 0) r = (split (t.getD 0 0) s).drop i.toNat /\ a = (split (t.getD 0 0) s).take i.toNat ++ List.replicate (n + 1 - i).toNat []
def eG (l : List (List Int)) (z : List Int) (i : Int) : St2 := ⟨⟨[sL false .str l] ++ [sS z] ++ U.n 5 ++ [sI l.length] ++ [sI i] ++ U.n 10, [], []⟩, 0, []⟩
def eU (l : List (List Int)) (z : List Int)  (i : Int) : Prop := at_ l i /\ zO z (l.drop i.toNat) i = zO z l 0
end U
def LZ (s t : List Int) : Vc.Loop := ⟨{ keep := [0, 1, 2, 3, 9, 10] }, List Int × Int × Int × List (List Int) × Int, fun x => U.dR s t x.1 x.2.1 x.2.2.1 x.2.2.2.1 x.2.2.2.2, fun x0 x => U.eF s t  x.1 x.2.1 x.2.2.1 x.2.2.2.1 x.2.2.2.2, fun x => (x.2.2.1 - x.2.2.2.2).toNat⟩
def zQ (l : List (List Int)) (z : List Int) : Vc.Loop := ⟨{ keep := [0, 1, 7, 8] }, Int, fun x => U.eG l z x, fun x0 x => U.eU l z  x, fun x => l.length - x.toNat⟩
def Ec : Vc.Sum := .pure [.str, .int .u8] false fun x => ahV x.1 x.2
def Ed : List (Nat × Ent) := (61, .sum Ec) :: []
def lI : Vc.Sum := .pure [.str, .int .u8] false fun x => ahV x.1 x.2
def lJ : List (Nat × Ent) := (83, .sum lI) :: Ed
def L6 : Vc.Sum := .pure [.str, .str] false fun x => ajk x.1 x.2
def L8 : List (Nat × Ent) := (119, .sum L6) :: lJ
def Ee : Vc.Sum := .pure [.str, .str] false fun x => Yr x.1 x.2
def mF : List (Nat × Ent) := (101, .sum Ee) :: L8
def gY (s : List Int) (t : List Int) : Done := ⟨[t.length = 1], .one (.int .i64 (aH s (t.getD 0 0))), [], []⟩
def pW : Vc.Sum := .pure [.str, .str] false fun x => gY x.1 x.2
def pX (s : List Int) (t : List Int) : Nat -> List V -> Nat -> Option Vc.Loop := bW
def gZ : List (Nat × Ent) := (114, .sum pW) :: mF
def gU (s : List Int) (t : List Int) (sv : Int) (n : Int) : Done := ⟨[t.length = 1, sv = 0, n = -1, s.length <= 1000000000000], .one (.psl true .str (U.split (t.getD 0 0) s)), [], []⟩
def FZ : Vc.Sum := .pure [.str, .str, .int .i64, .int .i64] false fun x => gU x.1 x.2.1 x.2.2.1 x.2.2.2
def F5 (s : List Int) (t : List Int) (sv : Int) (n : Int) : Nat -> List V -> Nat -> Option Vc.Loop := fun f v k => cond (Nat.beq f 111 && Nat.beq k 11) (some (LZ s t)) <| none
def ou : List (Nat × Ent) := (111, .sum FZ) :: gZ
def jK (l : List (List Int)) (z : List Int) : Done := ⟨[], .one (.int .i64 (U.zO z l 0)), [], []⟩
def pY : Vc.Sum := .pure [J4, .str] false fun x => jK x.1 x.2
def qc (l : List (List Int)) (z : List Int) : Nat -> List V -> Nat -> Option Vc.Loop := fun f v k => cond (Nat.beq f 112 && Nat.beq k 2) (some (zQ l z)) <| none
def ig : List (Nat × Ent) := (112, .sum pY) :: ou
end Go.Proofs.YtkhdeldobekciaaGreatDoor
set_option maxRecDepth 100000
set_option linter.unusedVariables false
namespace Go.Proofs.YtkhdeldobekciaaGreatDoor
open Go.Vc
def jy (s : List Int) (t : List Int) : Prop := bif bif decide ((↑t.length : Int) = (0 : Int)) then true else t.beq s then (0 : Int) = aH s (t.getD (0 : Nat) (0 : Int)) /\ True else bif decide ((↑t.length : Int) = (1 : Int)) then (0 : Int) <= (0 : Int) /\ (0 : Int) < (↑t.length : Int) /\ aH s (t.getD (0 : Nat) (0 : Int)) = aH s (t.getD (0 : Nat) (0 : Int)) /\ True else bif
 decide ((↑t.length : Int) >= (↑s.length : Int)) then (-1 : Int) = aH s (t.getD (0 : Nat) (0 : Int)) /\ True else False
def uh (s : List Int) (t : List Int) (sv : Int) (n : Int) : Prop := bif decide (n = (0 : Int)) then [] = U.split (t.getD (0 : Nat) (0 : Int)) s /\ True else bif t.beq [] then False else bif decide (n < (0 : Int)) then t.length = (1 : Nat) /\ (0 : Int) <= bU (IntKind.i64.wrap ((↑(List.filter (fun (x : Int) => decide (x = t.getD (0 : Nat) (0 : Int))) s).length : Int).add (1 : Int)))
 (IntKind.i64.wrap ((↑s.length : Int).add (1 : Int))) /\ bU (IntKind.i64.wrap ((↑(List.filter (fun (x : Int) => decide (x = t.getD (0 : Nat) (0 : Int))) s).length : Int).add (1 : Int))) (IntKind.i64.wrap ((↑s.length : Int).add (1 : Int))) <= bU (IntKind.i64.wrap ((↑(List.filter (fun (x : Int) => decide (x = t.getD (0 : Nat) (0 : Int))) s).length : Int).add (1 : Int))) (IntKind.i64.wrap ((↑s.length
 : Int).add (1 : Int))) /\ (bU (IntKind.i64.wrap ((↑(List.filter (fun (x : Int) => decide (x = t.getD (0 : Nat) (0 : Int))) s).length : Int).add (1 : Int))) (IntKind.i64.wrap ((↑s.length : Int).add (1 : Int)))).mul (↑(16 : Nat) : Int) <= (140737488355328 : Int) /\ bU (IntKind.i64.wrap ((↑(List.filter (fun (x : Int) => decide (x = t.getD (0 : Nat) (0 : Int))) s).length : Int).add (1 : Int)))
 (IntKind.i64.wrap ((↑s.length : Int).add (1 : Int))) <= (9223372036854775807 : Int) /\ ∃ (x0 : List Int × Int × Int × List (List Int) × Int), (U.dR s t s sv (IntKind.i64.wrap ((bU (IntKind.i64.wrap ((↑(List.filter (fun (x : Int) => decide (x = t.getD (0 : Nat) (0 : Int))) s).length : Int).add (1 : Int))) (IntKind.i64.wrap ((↑s.length : Int).add (1 : Int)))).sub (1 : Int)))
 (List.replicate (bU (IntKind.i64.wrap ((↑(List.filter (fun (x : Int) => decide (x = t.getD (0 : Nat) (0 : Int))) s).length : Int).add (1 : Int))) (IntKind.i64.wrap ((↑s.length : Int).add (1 : Int)))).toNat []) (0 : Int) = U.dR s t x0.1 x0.2.1 x0.2.2.1 x0.2.2.2.1 x0.2.2.2.2 /\ U.eF s t x0.1 x0.2.1 x0.2.2.1 x0.2.2.2.1 x0.2.2.2.2) /\ ∀ (x : List Int × Int × Int ×
 List (List Int) × Int), U.eF s t x.1 x.2.1 x.2.2.1 x.2.2.2.1 x.2.2.2.2 -> bif decide (x.2.2.2.2 < x.2.2.1) then t.length = (1 : Nat) /\ bif decide (aH x.1 (t.getD (0 : Nat) (0 : Int)) < (0 : Int)) then (0 : Int) <= x.2.2.2.2 /\ x.2.2.2.2 < (↑x.2.2.2.1.length : Int) /\ x.2.2.2.2.toNat < x.2.2.2.1.length /\ (0 : Int) <= (0 : Int) /\ (0 : Int) <= IntKind.i64.wrap (x.2.2.2.2.add (1 : Int)) /\
 IntKind.i64.wrap (x.2.2.2.2.add (1 : Int)) <= (↑(x.2.2.2.1.set x.2.2.2.2.toNat x.1).length : Int) /\ List.take ((IntKind.i64.wrap (x.2.2.2.2.add (1 : Int))).toNat.sub (0 : Nat)) (List.drop (0 : Nat) (x.2.2.2.1.set x.2.2.2.2.toNat x.1)) = U.split (t.getD (0 : Nat) (0 : Int)) s /\ True else (0 : Int) <= (0 : Int) /\ (0 : Int) <= IntKind.i64.wrap ((aH x.1 (t.getD (0 : Nat) (0 : Int))).add x.2.1) /\
 IntKind.i64.wrap ((aH x.1 (t.getD (0 : Nat) (0 : Int))).add x.2.1) <= (↑x.1.length : Int) /\ (0 : Int) <= x.2.2.2.2 /\ x.2.2.2.2 < (↑x.2.2.2.1.length : Int) /\ x.2.2.2.2.toNat < x.2.2.2.1.length /\ (0 : Int) <= IntKind.i64.wrap ((aH x.1 (t.getD (0 : Nat) (0 : Int))).add (↑t.length : Int)) /\ IntKind.i64.wrap ((aH x.1 (t.getD (0 : Nat) (0 : Int))).add (↑t.length : Int)) <= (↑x.1.length : Int) /\
 (↑x.1.length : Int) <= (↑x.1.length : Int) /\ ∃ (y : List Int × Int × Int × List (List Int) × Int), U.dR s t (List.take ((↑x.1.length : Int).toNat.sub (IntKind.i64.wrap ((aH x.1 (t.getD (0 : Nat) (0 : Int))).add (↑t.length : Int))).toNat) (List.drop (IntKind.i64.wrap ((aH x.1 (t.getD (0 : Nat) (0 : Int))).add (↑t.length : Int))).toNat x.1)) x.2.1 x.2.2.1 (x.2.2.2.1.set
 x.2.2.2.2.toNat (List.take ((IntKind.i64.wrap ((aH x.1 (t.getD (0 : Nat) (0 : Int))).add x.2.1)).toNat.sub (0 : Nat)) (List.drop (0 : Nat) x.1))) (IntKind.i64.wrap (x.2.2.2.2.add (1 : Int))) = U.dR s t y.1 y.2.1 y.2.2.1 y.2.2.2.1 y.2.2.2.2 /\ U.eF s t y.1 y.2.1 y.2.2.1 y.2.2.2.1 y.2.2.2.2 /\ (y.2.2.1.sub y.2.2.2.2).toNat < (x.2.2.1.sub x.2.2.2.2).toNat else (0 :
 Int) <= x.2.2.2.2 /\ x.2.2.2.2 < (↑x.2.2.2.1.length : Int) /\ x.2.2.2.2.toNat < x.2.2.2.1.length /\ (0 : Int) <= (0 : Int) /\ (0 : Int) <= IntKind.i64.wrap (x.2.2.2.2.add (1 : Int)) /\ IntKind.i64.wrap (x.2.2.2.2.add (1 : Int)) <= (↑(x.2.2.2.1.set x.2.2.2.2.toNat x.1).length : Int) /\ List.take ((IntKind.i64.wrap (x.2.2.2.2.add (1 : Int))).toNat.sub (0 : Nat)) (List.drop (0 : Nat) (x.2.2.2.1.set
 x.2.2.2.2.toNat x.1)) = U.split (t.getD (0 : Nat) (0 : Int)) s /\ True else (0 : Int) <= bU n (IntKind.i64.wrap ((↑s.length : Int).add (1 : Int))) /\ bU n (IntKind.i64.wrap ((↑s.length : Int).add (1 : Int))) <= bU n (IntKind.i64.wrap ((↑s.length : Int).add (1 : Int))) /\ (bU n (IntKind.i64.wrap ((↑s.length : Int).add (1 : Int)))).mul (↑(16 : Nat) : Int) <= (140737488355328 : Int) /\ bU n
 (IntKind.i64.wrap ((↑s.length : Int).add (1 : Int))) <= (9223372036854775807 : Int) /\ ∃ (x0 : List Int × Int × Int × List (List Int) × Int), (U.dR s t s sv (IntKind.i64.wrap ((bU n (IntKind.i64.wrap ((↑s.length : Int).add (1 : Int)))).sub (1 : Int))) (List.replicate (bU n (IntKind.i64.wrap ((↑s.length : Int).add (1 : Int)))).toNat []) (0 : Int) = U.dR s t
 x0.1 x0.2.1 x0.2.2.1 x0.2.2.2.1 x0.2.2.2.2 /\ U.eF s t x0.1 x0.2.1 x0.2.2.1 x0.2.2.2.1 x0.2.2.2.2) /\ ∀ (x : List Int × Int × Int × List (List Int) × Int), U.eF s t x.1 x.2.1 x.2.2.1 x.2.2.2.1 x.2.2.2.2 -> bif decide (x.2.2.2.2 < x.2.2.1) then t.length = (1 : Nat) /\ bif decide (aH x.1 (t.getD (0 : Nat) (0 : Int)) < (0 : Int)) then (0 : Int) <= x.2.2.2.2 /\ x.2.2.2.2
 < (↑x.2.2.2.1.length : Int) /\ x.2.2.2.2.toNat < x.2.2.2.1.length /\ (0 : Int) <= (0 : Int) /\ (0 : Int) <= IntKind.i64.wrap (x.2.2.2.2.add (1 : Int)) /\ IntKind.i64.wrap (x.2.2.2.2.add (1 : Int)) <= (↑(x.2.2.2.1.set x.2.2.2.2.toNat x.1).length : Int) /\ List.take ((IntKind.i64.wrap (x.2.2.2.2.add (1 : Int))).toNat.sub (0 : Nat)) (List.drop (0 : Nat) (x.2.2.2.1.set x.2.2.2.2.toNat x.1)) = U.split (t.getD
 (0 : Nat) (0 : Int)) s /\ True else (0 : Int) <= (0 : Int) /\ (0 : Int) <= IntKind.i64.wrap ((aH x.1 (t.getD (0 : Nat) (0 : Int))).add x.2.1) /\ IntKind.i64.wrap ((aH x.1 (t.getD (0 : Nat) (0 : Int))).add x.2.1) <= (↑x.1.length : Int) /\ (0 : Int) <= x.2.2.2.2 /\ x.2.2.2.2 < (↑x.2.2.2.1.length : Int) /\ x.2.2.2.2.toNat < x.2.2.2.1.length /\ (0 : Int) <= IntKind.i64.wrap ((aH x.1 (t.getD (0 : Nat) (0 :
 Int))).add (↑t.length : Int)) /\ IntKind.i64.wrap ((aH x.1 (t.getD (0 : Nat) (0 : Int))).add (↑t.length : Int)) <= (↑x.1.length : Int) /\ (↑x.1.length : Int) <= (↑x.1.length : Int) /\ ∃ (y : List Int × Int × Int × List (List Int) × Int), U.dR s t (List.take ((↑x.1.length : Int).toNat.sub (IntKind.i64.wrap ((aH x.1 (t.getD (0 : Nat) (0 : Int))).add (↑t.length : Int))).toNat)
 (List.drop (IntKind.i64.wrap ((aH x.1 (t.getD (0 : Nat) (0 : Int))).add (↑t.length : Int))).toNat x.1)) x.2.1 x.2.2.1 (x.2.2.2.1.set x.2.2.2.2.toNat (List.take ((IntKind.i64.wrap ((aH x.1 (t.getD (0 : Nat) (0 : Int))).add x.2.1)).toNat.sub (0 : Nat)) (List.drop (0 : Nat) x.1))) (IntKind.i64.wrap (x.2.2.2.2.add (1 : Int))) = U.dR s t y.1 y.2.1 y.2.2.1 y.2.2.2.1 y.2.2.2.2 /\
 U.eF s t y.1 y.2.1 y.2.2.1 y.2.2.2.1 y.2.2.2.2 /\ (y.2.2.1.sub y.2.2.2.2).toNat < (x.2.2.1.sub x.2.2.2.2).toNat else (0 : Int) <= x.2.2.2.2 /\ x.2.2.2.2 < (↑x.2.2.2.1.length : Int) /\ x.2.2.2.2.toNat < x.2.2.2.1.length /\ (0 : Int) <= (0 : Int) /\ (0 : Int) <= IntKind.i64.wrap (x.2.2.2.2.add (1 : Int)) /\ IntKind.i64.wrap (x.2.2.2.2.add (1 : Int)) <= (↑(x.2.2.2.1.set x.2.2.2.2.toNat
 x.1).length : Int) /\ List.take ((IntKind.i64.wrap (x.2.2.2.2.add (1 : Int))).toNat.sub (0 : Nat)) (List.drop (0 : Nat) (x.2.2.2.1.set x.2.2.2.2.toNat x.1)) = U.split (t.getD (0 : Nat) (0 : Int)) s /\ True
def jA (l : List (List Int)) (z : List Int) : Prop := ∃ (x0 : Int), (U.eG l z (0 : Int) = U.eG l z x0 /\ U.eU l z x0) /\ ∀ (x : Int), U.eU l z x -> bif decide (x < (↑l.length : Int)) then (0 : Int) <= x /\ x < (↑l.length : Int) /\ bif z.beq (l.getD x.toNat []) then x =
 U.zO z l (0 : Int) /\ True else ∃ (y : Int), U.eG l z (IntKind.i64.wrap (x.add (1 : Int))) = U.eG l z y /\ U.eU l z y /\ l.length.sub y.toNat < l.length.sub x.toNat else (-1 : Int) = U.zO z l (0 : Int) /\ True
end Go.Proofs.YtkhdeldobekciaaGreatDoor
set_option linter.unusedSimpArgs false
set_option linter.unusedVariables false
set_option maxRecDepth 100000
namespace Go.Proofs.YtkhdeldobekciaaGreatDoor
open Go.Vc
open Go.Vc.T
theorem Ci (s t : List Int) (h1 : t.length = 1) : jy s t := by
 unfold jy
 match t, h1 with
 | [c], _ =>
   simp only [cond_prop, dZ, jw, decide_eq_true_eq, decide_eq_false_iff_not, fO]
   refine ⟨fun h => ⟨?_, trivial⟩, fun _ => ⟨fun _ => ⟨by omega, by simp, trivial, trivial⟩, fun h => (h (by rfl)).elim⟩⟩
   have h : [c] = s := by simpa using h
   subst h
   simp [aH]
theorem GK (c x : Int) (r : List Int) : U.split c (x :: r) = if x = c then [] :: U.split c r else (x :: (U.split c r).headD []) :: (U.split c r).tail := rfl
theorem zi (c : Int) : ∀ s, (U.split c s).length = iU s c + 1
 | [] => rfl
 | x :: r => by
   have ih := zi c r
   rw [GK]
   unfold iU at *
   rw [List.filter_cons]
   by_cases h : x = c
   ·rw [if_pos h, if_pos (by simpa using h), List.length_cons, List.length_cons, ih]
   ·rw [if_neg h, if_neg (by simpa using h), List.length_cons, List.length_tail, ih]; omega
theorem WR (c : Int) : ∀ s, aH s c < 0 -> U.split c s = [s]
 | [], _ => rfl
 | x :: r, h => by
   have hb := kL r c
   unfold aH at h
   by_cases hx : x = c
   ·simp [hx] at h
   ·by_cases hi : aH r c = -1
    ·have ih := WR c r (by omega)
     rw [GK, if_neg hx, ih]; rfl
    ·simp [hx, hi] at h; omega
theorem QX (c : Int) : ∀ (s : List Int), 0 <= aH s c -> U.split c s = s.take (aH s c).toNat :: U.split c (s.drop ((aH s c).toNat + 1))
 | [], h => by simp [aH] at h
 | x :: r, h => by
   have hb := kL r c
   by_cases hx : x = c
   ·simp [GK, aH, hx]
   ·by_cases hi : aH r c = -1
    ·simp [aH, hx, hi] at h
    ·have e : aH (x :: r) c = aH r c + 1 := by simp [aH, hx, hi]
     have ih := QX c r (by omega)
     rw [e, show (aH r c + 1).toNat = (aH r c).toNat + 1 by omega]
     rw [GK, if_neg hx, ih]; rfl
theorem ajl {α : Type} {a b : List α} {x y : α} {n : Nat} (h : a.length = n) : (a ++ x :: b).set n y = a ++ y :: b := by
 subst h; rw [List.set_append, if_neg (by omega), Nat.sub_self]; rfl
theorem QY (s t : List Int) (sv n : Int) (h1 : t.length = 1) (h2 : sv = 0) (h3 : n = -1) (h4 : s.length <= 1000000000000) : uh s t sv n := by
 subst h2 h3
 unfold uh
 match t, h1 with
 | [c], _ =>
   have hl := zi c s
   have hc := ag1 s c
   have hg : [c].getD 0 0 = c := rfl
   rw [hg, show (List.filter (fun x => decide (x = c)) s).length = iU s c from rfl]
   have w1 : IntKind.i64.wrap (Int.add (iU s c : Int) 1) = (iU s c : Int) + 1 := by rw [wrap_i64, bf]; omega
   have w2 : IntKind.i64.wrap (Int.add (s.length : Int) 1) = (s.length : Int) + 1 := by rw [wrap_i64, bf]; omega
   have w3 : bU ((iU s c : Int) + 1) ((s.length : Int) + 1) = (iU s c : Int) + 1 := by rw [agY]; omega
   have w4 : IntKind.i64.wrap (Int.sub ((iU s c : Int) + 1) 1) = (iU s c : Int) := by rw [wrap_i64, dF]; omega
   rw [w1, w2, w3, w4, show decide ((-1 : Int) = 0) = false from rfl, show ([c].beq []) = false from rfl, show decide ((-1 : Int) < 0) = true from rfl, cond_false, cond_false, cond_true]
   simp only [cond_prop, decide_eq_true_eq, decide_eq_false_iff_not, bf, dF, eX, bT, U.eF, hg]
   refine ⟨rfl, by omega, by omega, by omega, by omega, (_, _, _, _, _), ⟨rfl, Nat.le_refl _, rfl, rfl, by simp, by simp, rfl, ?_⟩, ?_⟩
   ·simp only []; rw [show ((iU s c : Int) + 1 - 0).toNat = ((iU s c : Int) + 1).toNat by omega]; rfl
   rintro ⟨r, sv, n, a, i⟩ ⟨hrs, e1, e2, h0, h1, hr, ha⟩
   simp only [] at *
   subst e1 e2
   have hal : a.length = iU s c + 1 := by rw [ha, List.length_append, List.length_take, List.length_replicate]; omega
   have hrl := congrArg List.length hr
   rw [List.length_drop, hl, zi c r] at hrl
   have htl : ((U.split c s).take i.toNat).length = i.toNat := by rw [List.length_take]; omega
   have wi : IntKind.i64.wrap (i + 1) = i + 1 := by rw [wrap_i64]; omega
   have hb := kL r c
   have hrep : List.replicate ((iU s c : Int) + 1 - i).toNat ([] : List Int) = [] :: List.replicate ((iU s c : Int) + 1 - (i + 1)).toNat [] := by
    rw [show ((iU s c : Int) + 1 - i).toNat = ((iU s c : Int) + 1 - (i + 1)).toNat + 1 by omega, List.replicate_succ]
   have fin : i = iU s c -> List.take ((i + 1).toNat - 0) (List.drop 0 (a.set i.toNat r)) = U.split c s := by
    intro hi
    have hri : U.split c r = [r] := by
     refine WR c r ?_
     rcases Int.lt_or_le (aH r c) 0 with h | h
     ·exact h
     ·have := QX c r h
      have h5 := congrArg List.length this
      rw [List.length_cons, zi, zi] at h5
      omega
    have hd : U.split c s = (U.split c s).take i.toNat ++ [r] := by
     conv => lhs; rw [<- List.take_append_drop i.toNat (U.split c s), <- hr, hri]
    rw [List.drop_zero, ha, hrep, ajl htl, show ((iU s c : Int) + 1 - (i + 1)).toNat = 0 by omega, List.replicate_zero, <- hd, List.take_of_length_le (by omega)]
   rw [wi]
   refine ⟨fun hlt => ⟨rfl, fun hneg => ?_, fun hpos => ?_⟩, fun hge => ⟨by omega, by omega, by omega, by omega, by omega, by rw [List.length_set]; omega, fin (by omega), trivial⟩⟩
   ·have := WR c r hneg
    have h5 := congrArg List.length this
    rw [zi] at h5
    have : [r].length = 1 := rfl
    omega
   ·have hy := QX c r (by omega)
    have v1 : IntKind.i64.wrap (aH r c + 0) = aH r c := by rw [wrap_i64]; omega
    have v2 : IntKind.i64.wrap (aH r c + (([c].length : Nat) : Int)) = aH r c + 1 := by rw [wrap_i64]; show (aH r c + 1 + _) % _ - _ = _; omega
    have hdl : (r.drop (aH r c + 1).toNat).length = r.length - (aH r c + 1).toNat := List.length_drop
    rw [v1, v2, show ((r.length : Int)).toNat = r.length by omega, List.take_of_length_le (l := r.drop (aH r c + 1).toNat) (by omega), List.drop_zero, Nat.sub_zero]
    refine ⟨by omega, by omega, by omega, by omega, by omega, by omega, by omega, by omega, by omega, (_, _, _, _, _), rfl, ⟨by show (r.drop _).length <= _; omega, rfl, rfl, by show 0 <= i + 1; omega, by show i + 1 <= (iU s c : Int); omega, ?_, ?_⟩, ?_⟩
    ·show U.split c (r.drop (aH r c + 1).toNat) = (U.split c s).drop (i + 1).toNat
     have h5 := congrArg (List.drop 1) hr
     rw [hy, List.drop_succ_cons, List.drop_zero, List.drop_drop] at h5
     rw [show (aH r c + 1).toNat = (aH r c).toNat + 1 by omega, h5]; congr 1; omega
    ·show a.set i.toNat (r.take (aH r c).toNat) = (U.split c s).take (i + 1).toNat ++ List.replicate ((iU s c : Int) + 1 - (i + 1)).toNat []
     rw [ha, hrep, ajl htl, show (i + 1).toNat = i.toNat + 1 by omega, List.take_succ_eq_append_getElem (by omega)]
     have h6 : (U.split c s)[i.toNat] = r.take (aH r c).toNat := by
      have h7 := congrArg (fun l => l[0]?) hr
      simp only [hy, List.getElem?_cons_zero, List.getElem?_drop, Nat.add_zero] at h7
      rw [List.getElem?_eq_getElem (by omega)] at h7
      exact (Option.some.inj h7).symm
     rw [h6]; simp
    ·show ((iU s c : Int) - (i + 1)).toNat < ((iU s c : Int) - i).toNat
     omega
theorem Cj (l : List (List Int)) (z : List Int) (hl : l.length <= maxLen) : jA l z := by
 unfold jA
 rw [maxLen_eq] at hl
 simp only [cond_prop, bf, jw, bT, fO, U.eU, U.at_, wrap_i64, decide_eq_true_eq, decide_eq_false_iff_not, beq_iff_eq, beq_eq_false_iff_ne]
 refine ⟨0, ⟨rfl, ⟨by omega, by omega⟩, rfl⟩, ?_⟩
 rintro i ⟨⟨h0, h1⟩, h2⟩
 refine ⟨fun hi => ⟨h0, hi, fun he => ⟨?_, trivial⟩, fun he => ⟨i + 1, ?_, ⟨⟨by omega, by omega⟩, ?_⟩, by omega⟩⟩, fun hi => ⟨?_, trivial⟩⟩
 ·rw [drop_at h0 hi] at h2
  rw [getD_at (by omega)] at he
  rw [<- h2, U.zO, if_pos he.symm]
 ·rw [show (i + 1 + 9223372036854775808) % 18446744073709551616 - 9223372036854775808 = i + 1 by omega]
 ·rw [drop_at h0 hi] at h2
  rw [getD_at (by omega)] at he
  rw [<- h2, U.zO, if_neg (fun h => he h.symm)]
 ·rw [drop_end (by omega)] at h2
  rw [<- h2]; rfl
end Go.Proofs.YtkhdeldobekciaaGreatDoor
set_option linter.unusedSimpArgs false
set_option maxRecDepth 100000
set_option linter.unusedVariables false
namespace Go.Proofs.YtkhdeldobekciaaGreatDoor
open Go.Vc
theorem QZ : aV Tryz.prog gl 61 Ec := ag0 (fn := Tryz.f61) (by kernel_rfl) (by kernel_rfl) (by kernel_rfl) Tryz.strings_IndexByte
theorem P6 : aQ Ed := .cons QZ alS
theorem zx : aV Tryz.prog gl 83 lI := ag0 (fn := Tryz.f83) (by kernel_rfl) (by kernel_rfl) (by kernel_rfl) Tryz.stringslite_IndexByte
theorem yI : aQ lJ := .cons zx P6
theorem ZQ : aV Tryz.prog gl 119 L6 := akh (fn := Tryz.f119) (by kernel_rfl) (by kernel_rfl) (by kernel_rfl) Tryz.strings_Count_one
theorem Yt : aQ L8 := .cons ZQ yI
theorem Q5 : aV Tryz.prog gl 101 Ee := adM (fn := Tryz.f101) (by kernel_rfl) (by kernel_rfl) (by kernel_rfl) Tryz.strings_EqualFold
theorem Bg : aQ mF := .cons Q5 Yt
theorem Ef (x : aP [.str, .str]) : bg Tryz.prog (aT mF) (pX x.1 x.2) 114 (aZ [.str, .str] x) [] (gY x.1 x.2) = jy x.1 x.2 := by kernel_rfl
theorem Eh : Pok 114 [.str, .str] (fun x => gY x.1 x.2) := by
 refine pk (L := fun x => pX x.1 x.2) (l := mF) Bg (fun _ => rfl) ?_
 intro x hv hp
 rw [Ef]
 exact Ci x.1 x.2 (hp (List.length x.2 = 1) (by simp [gY]))
theorem Ei : aV Tryz.prog gl 114 pW := Eh
theorem oP : aQ gZ := .cons Ei Bg
theorem UQ (x : aP [.str, .str, .int .i64, .int .i64]) : bg Tryz.prog (aT gZ) (F5 x.1 x.2.1 x.2.2.1 x.2.2.2) 111 (aZ [.str, .str, .int .i64, .int .i64] x) [] (gU x.1 x.2.1 x.2.2.1 x.2.2.2) = uh x.1 x.2.1 x.2.2.1 x.2.2.2 := by kernel_rfl
theorem UR : Pok 111 [.str, .str, .int .i64, .int .i64] (fun x => gU x.1 x.2.1 x.2.2.1 x.2.2.2) := by
 refine pk (L := fun x => F5 x.1 x.2.1 x.2.2.1 x.2.2.2) (l := gZ) oP (fun _ => rfl) ?_
 intro x hv hp
 rw [UQ]
 exact QY x.1 x.2.1 x.2.2.1 x.2.2.2 (hp (List.length x.2.1 = 1) (by simp [gU])) (hp (x.2.2.1 = 0) (by simp [gU])) (hp (x.2.2.2 = -1) (by simp [gU])) (hp (List.length x.1 <= 1000000000000) (by simp [gU]))
theorem UU : aV Tryz.prog gl 111 FZ := UR
theorem Ej : aQ ou := .cons UU oP
theorem Em (x : aP [J4, .str]) : bg Tryz.prog (aT ou) (qc x.1 x.2) 112 (aZ [J4, .str] x) [] (jK x.1 x.2) = jA x.1 x.2 := by kernel_rfl
theorem En : Pok 112 [J4, .str] (fun x => jK x.1 x.2) := by
 refine pk (L := fun x => qc x.1 x.2) (l := ou) Ej (fun _ => rfl) ?_
 intro x hv hp
 rw [Em]
 exact Cj x.1 x.2 hv.1.2
theorem Eo : aV Tryz.prog gl 112 pY := En
theorem oQ : aQ ig := .cons Eo Ej
end Go.Proofs.YtkhdeldobekciaaGreatDoor
