/- What functions of this seat compute, in plain Lean. -/
import Derived.Test.YtkhdeldobekciaaDoorKZ
import Derived.Test.YtkhdeldobekciaaDoorKVcF
import Derived.Test.YtkhdeldobekciaaDoorKS
set_option linter.unusedVariables false
set_option linter.unusedSimpArgs false
set_option maxRecDepth 100000
namespace Go.Proofs.YtkhdeldobekciaaDoor
open Go.Vc
abbrev DZ : Ty := .slice .str
namespace U
def split (c : Int) : List Int -> List (List Int)
 | [] => [[]]
 | x :: r => if x = c then [] :: split c r else (x :: (split c r).headD []) :: (split c r).tail
def CO (x : List Int) : List (List Int) -> Int -> Int
 | [], _ => -1
 | y :: r, i => if y = x then i else CO x r (i + 1)
end U
namespace U
def dh (s t : List Int) (r : List Int) (sv : Int) (n : Int) (a : List (List Int)) (i : Int) : St2 := ⟨⟨[sS r] ++ [sS t] ++ [sI sv] ++ [sI n] ++ U.n 5 ++ [own 0] ++ [sI i] ++ U.n 55, [], [(0, .row 9 .str true true a)]⟩, 1, []⟩
def dJ (s t : List Int)  (r : List Int) (sv : Int) (n : Int) (a : List (List Int)) (i : Int) : Prop := r.length <= s.length /\ sv = 0 /\ n = gZ s (t.getD 0 0) /\ 0 <= i /\ i <= n /\ split (t.getD 0 0) r = (split (t.getD 0 0) s).drop i.toNat /\ a = (split (t.getD 0 0) s).take i.toNat ++ List.replicate (n + 1 - i).toNat []
def dK (l : List (List Int)) (z : List Int) (i : Int) : St2 := ⟨⟨[sL false .str l] ++ [sS z] ++ U.n 5 ++ [sI l.length] ++ [sI i] ++ U.n 10, [], []⟩, 0, []⟩
def dP (l : List (List Int)) (z : List Int)  (i : Int) : Prop := at_ l i /\ CO z (l.drop i.toNat) i = CO z l 0
end U
def FD (s t : List Int) : Vc.Loop := ⟨{ keep := [0, 1, 2, 3, 9, 10] }, List Int × Int × Int × List (List Int) × Int, fun x => U.dh s t x.1 x.2.1 x.2.2.1 x.2.2.2.1 x.2.2.2.2, fun x0 x => U.dJ s t  x.1 x.2.1 x.2.2.1 x.2.2.2.1 x.2.2.2.2, fun x => (x.2.2.1 - x.2.2.2.2).toNat⟩
def vN (l : List (List Int)) (z : List Int) : Vc.Loop := ⟨{ keep := [0, 1, 7, 8] }, Int, fun x => U.dK l z x, fun x0 x => U.dP l z  x, fun x => l.length - x.toNat⟩
def yM : Vc.Sum := .pure [.str, .int .u8] false fun x => ZR x.1 x.2
def yN : List (Nat × Ent) := (45, .sum yM) :: []
def kF : Vc.Sum := .pure [.str, .int .u8] false fun x => ZR x.1 x.2
def kG : List (Nat × Ent) := (61, .sum kF) :: yN
def FH : Vc.Sum := .pure [.str, .str] false fun x => aa2 x.1 x.2
def FI : List (Nat × Ent) := (94, .sum FH) :: kG
def yO : Vc.Sum := .pure [.str, .str] false fun x => P6 x.1 x.2
def kW : List (Nat × Ent) := (77, .sum yO) :: FI
def fQ (s : List Int) (t : List Int) : Done := ⟨[t.length = 1], .one (.int .i64 (aH s (t.getD 0 0))), [], []⟩
def mV : Vc.Sum := .pure [.str, .str] false fun x => fQ x.1 x.2
def mW (s : List Int) (t : List Int) : Nat -> List V -> Nat -> Option Vc.Loop := dO
def fU : List (Nat × Ent) := (89, .sum mV) :: kW
def fM (s : List Int) (t : List Int) (sv : Int) (n : Int) : Done := ⟨[t.length = 1, sv = 0, n = -1, s.length <= 1000000000000], .one (.psl true .str (U.split (t.getD 0 0) s)), [], []⟩
def zX : Vc.Sum := .pure [.str, .str, .int .i64, .int .i64] false fun x => fM x.1 x.2.1 x.2.2.1 x.2.2.2
def zY (s : List Int) (t : List Int) (sv : Int) (n : Int) : Nat -> List V -> Nat -> Option Vc.Loop := fun f v k => cond (Nat.beq f 86 && Nat.beq k 11) (some (FD s t)) <| none
def lS : List (Nat × Ent) := (86, .sum zX) :: fU
def jf (l : List (List Int)) (z : List Int) : Done := ⟨[], .one (.int .i64 (U.CO z l 0)), [], []⟩
def mX : Vc.Sum := .pure [DZ, .str] false fun x => jf x.1 x.2
def mY (l : List (List Int)) (z : List Int) : Nat -> List V -> Nat -> Option Vc.Loop := fun f v k => cond (Nat.beq f 87 && Nat.beq k 2) (some (vN l z)) <| none
def fV : List (Nat × Ent) := (87, .sum mX) :: lS
end Go.Proofs.YtkhdeldobekciaaDoor
set_option maxRecDepth 100000
set_option linter.unusedVariables false
namespace Go.Proofs.YtkhdeldobekciaaDoor
open Go.Vc
def iU (s : List Int) (t : List Int) : Prop := bif bif decide ((↑t.length : Int) = (0 : Int)) then true else t.beq s then (0 : Int) = aH s (t.getD (0 : Nat) (0 : Int)) /\ True else bif decide ((↑t.length : Int) = (1 : Int)) then (0 : Int) <= (0 : Int) /\ (0 : Int) < (↑t.length : Int) /\ aH s (t.getD (0 : Nat) (0 : Int)) = aH s (t.getD (0 : Nat) (0 : Int)) /\ True else bif
 decide ((↑t.length : Int) >= (↑s.length : Int)) then (-1 : Int) = aH s (t.getD (0 : Nat) (0 : Int)) /\ True else False
def pI (s : List Int) (t : List Int) (sv : Int) (n : Int) : Prop := bif decide (n = (0 : Int)) then [] = U.split (t.getD (0 : Nat) (0 : Int)) s /\ True else bif t.beq [] then False else bif decide (n < (0 : Int)) then t.length = (1 : Nat) /\ (0 : Int) <= bG (IntKind.i64.wrap ((↑(List.filter (fun (x : Int) => decide (x = t.getD (0 : Nat) (0 : Int))) s).length : Int).add (1 : Int)))
 (IntKind.i64.wrap ((↑s.length : Int).add (1 : Int))) /\ bG (IntKind.i64.wrap ((↑(List.filter (fun (x : Int) => decide (x = t.getD (0 : Nat) (0 : Int))) s).length : Int).add (1 : Int))) (IntKind.i64.wrap ((↑s.length : Int).add (1 : Int))) <= bG (IntKind.i64.wrap ((↑(List.filter (fun (x : Int) => decide (x = t.getD (0 : Nat) (0 : Int))) s).length : Int).add (1 : Int))) (IntKind.i64.wrap ((↑s.length
 : Int).add (1 : Int))) /\ (bG (IntKind.i64.wrap ((↑(List.filter (fun (x : Int) => decide (x = t.getD (0 : Nat) (0 : Int))) s).length : Int).add (1 : Int))) (IntKind.i64.wrap ((↑s.length : Int).add (1 : Int)))).mul (↑(16 : Nat) : Int) <= (140737488355328 : Int) /\ bG (IntKind.i64.wrap ((↑(List.filter (fun (x : Int) => decide (x = t.getD (0 : Nat) (0 : Int))) s).length : Int).add (1 : Int)))
 (IntKind.i64.wrap ((↑s.length : Int).add (1 : Int))) <= (9223372036854775807 : Int) /\ ∃ (x0 : List Int × Int × Int × List (List Int) × Int), (U.dh s t s sv (IntKind.i64.wrap ((bG (IntKind.i64.wrap ((↑(List.filter (fun (x : Int) => decide (x = t.getD (0 : Nat) (0 : Int))) s).length : Int).add (1 : Int))) (IntKind.i64.wrap ((↑s.length : Int).add (1 : Int)))).sub (1 : Int)))
 (List.replicate (bG (IntKind.i64.wrap ((↑(List.filter (fun (x : Int) => decide (x = t.getD (0 : Nat) (0 : Int))) s).length : Int).add (1 : Int))) (IntKind.i64.wrap ((↑s.length : Int).add (1 : Int)))).toNat []) (0 : Int) = U.dh s t x0.1 x0.2.1 x0.2.2.1 x0.2.2.2.1 x0.2.2.2.2 /\ U.dJ s t x0.1 x0.2.1 x0.2.2.1 x0.2.2.2.1 x0.2.2.2.2) /\ ∀ (x : List Int × Int × Int ×
 List (List Int) × Int), U.dJ s t x.1 x.2.1 x.2.2.1 x.2.2.2.1 x.2.2.2.2 -> bif decide (x.2.2.2.2 < x.2.2.1) then t.length = (1 : Nat) /\ bif decide (aH x.1 (t.getD (0 : Nat) (0 : Int)) < (0 : Int)) then (0 : Int) <= x.2.2.2.2 /\ x.2.2.2.2 < (↑x.2.2.2.1.length : Int) /\ x.2.2.2.2.toNat < x.2.2.2.1.length /\ (0 : Int) <= (0 : Int) /\ (0 : Int) <= IntKind.i64.wrap (x.2.2.2.2.add (1 : Int)) /\
 IntKind.i64.wrap (x.2.2.2.2.add (1 : Int)) <= (↑(x.2.2.2.1.set x.2.2.2.2.toNat x.1).length : Int) /\ List.take ((IntKind.i64.wrap (x.2.2.2.2.add (1 : Int))).toNat.sub (0 : Nat)) (List.drop (0 : Nat) (x.2.2.2.1.set x.2.2.2.2.toNat x.1)) = U.split (t.getD (0 : Nat) (0 : Int)) s /\ True else (0 : Int) <= (0 : Int) /\ (0 : Int) <= IntKind.i64.wrap ((aH x.1 (t.getD (0 : Nat) (0 : Int))).add x.2.1) /\
 IntKind.i64.wrap ((aH x.1 (t.getD (0 : Nat) (0 : Int))).add x.2.1) <= (↑x.1.length : Int) /\ (0 : Int) <= x.2.2.2.2 /\ x.2.2.2.2 < (↑x.2.2.2.1.length : Int) /\ x.2.2.2.2.toNat < x.2.2.2.1.length /\ (0 : Int) <= IntKind.i64.wrap ((aH x.1 (t.getD (0 : Nat) (0 : Int))).add (↑t.length : Int)) /\ IntKind.i64.wrap ((aH x.1 (t.getD (0 : Nat) (0 : Int))).add (↑t.length : Int)) <= (↑x.1.length : Int) /\
 (↑x.1.length : Int) <= (↑x.1.length : Int) /\ ∃ (y : List Int × Int × Int × List (List Int) × Int), U.dh s t (List.take ((↑x.1.length : Int).toNat.sub (IntKind.i64.wrap ((aH x.1 (t.getD (0 : Nat) (0 : Int))).add (↑t.length : Int))).toNat) (List.drop (IntKind.i64.wrap ((aH x.1 (t.getD (0 : Nat) (0 : Int))).add (↑t.length : Int))).toNat x.1)) x.2.1 x.2.2.1 (x.2.2.2.1.set
 x.2.2.2.2.toNat (List.take ((IntKind.i64.wrap ((aH x.1 (t.getD (0 : Nat) (0 : Int))).add x.2.1)).toNat.sub (0 : Nat)) (List.drop (0 : Nat) x.1))) (IntKind.i64.wrap (x.2.2.2.2.add (1 : Int))) = U.dh s t y.1 y.2.1 y.2.2.1 y.2.2.2.1 y.2.2.2.2 /\ U.dJ s t y.1 y.2.1 y.2.2.1 y.2.2.2.1 y.2.2.2.2 /\ (y.2.2.1.sub y.2.2.2.2).toNat < (x.2.2.1.sub x.2.2.2.2).toNat else (0 :
 Int) <= x.2.2.2.2 /\ x.2.2.2.2 < (↑x.2.2.2.1.length : Int) /\ x.2.2.2.2.toNat < x.2.2.2.1.length /\ (0 : Int) <= (0 : Int) /\ (0 : Int) <= IntKind.i64.wrap (x.2.2.2.2.add (1 : Int)) /\ IntKind.i64.wrap (x.2.2.2.2.add (1 : Int)) <= (↑(x.2.2.2.1.set x.2.2.2.2.toNat x.1).length : Int) /\ List.take ((IntKind.i64.wrap (x.2.2.2.2.add (1 : Int))).toNat.sub (0 : Nat)) (List.drop (0 : Nat) (x.2.2.2.1.set
 x.2.2.2.2.toNat x.1)) = U.split (t.getD (0 : Nat) (0 : Int)) s /\ True else (0 : Int) <= bG n (IntKind.i64.wrap ((↑s.length : Int).add (1 : Int))) /\ bG n (IntKind.i64.wrap ((↑s.length : Int).add (1 : Int))) <= bG n (IntKind.i64.wrap ((↑s.length : Int).add (1 : Int))) /\ (bG n (IntKind.i64.wrap ((↑s.length : Int).add (1 : Int)))).mul (↑(16 : Nat) : Int) <= (140737488355328 : Int) /\ bG n
 (IntKind.i64.wrap ((↑s.length : Int).add (1 : Int))) <= (9223372036854775807 : Int) /\ ∃ (x0 : List Int × Int × Int × List (List Int) × Int), (U.dh s t s sv (IntKind.i64.wrap ((bG n (IntKind.i64.wrap ((↑s.length : Int).add (1 : Int)))).sub (1 : Int))) (List.replicate (bG n (IntKind.i64.wrap ((↑s.length : Int).add (1 : Int)))).toNat []) (0 : Int) = U.dh s t
 x0.1 x0.2.1 x0.2.2.1 x0.2.2.2.1 x0.2.2.2.2 /\ U.dJ s t x0.1 x0.2.1 x0.2.2.1 x0.2.2.2.1 x0.2.2.2.2) /\ ∀ (x : List Int × Int × Int × List (List Int) × Int), U.dJ s t x.1 x.2.1 x.2.2.1 x.2.2.2.1 x.2.2.2.2 -> bif decide (x.2.2.2.2 < x.2.2.1) then t.length = (1 : Nat) /\ bif decide (aH x.1 (t.getD (0 : Nat) (0 : Int)) < (0 : Int)) then (0 : Int) <= x.2.2.2.2 /\ x.2.2.2.2
 < (↑x.2.2.2.1.length : Int) /\ x.2.2.2.2.toNat < x.2.2.2.1.length /\ (0 : Int) <= (0 : Int) /\ (0 : Int) <= IntKind.i64.wrap (x.2.2.2.2.add (1 : Int)) /\ IntKind.i64.wrap (x.2.2.2.2.add (1 : Int)) <= (↑(x.2.2.2.1.set x.2.2.2.2.toNat x.1).length : Int) /\ List.take ((IntKind.i64.wrap (x.2.2.2.2.add (1 : Int))).toNat.sub (0 : Nat)) (List.drop (0 : Nat) (x.2.2.2.1.set x.2.2.2.2.toNat x.1)) = U.split (t.getD
 (0 : Nat) (0 : Int)) s /\ True else (0 : Int) <= (0 : Int) /\ (0 : Int) <= IntKind.i64.wrap ((aH x.1 (t.getD (0 : Nat) (0 : Int))).add x.2.1) /\ IntKind.i64.wrap ((aH x.1 (t.getD (0 : Nat) (0 : Int))).add x.2.1) <= (↑x.1.length : Int) /\ (0 : Int) <= x.2.2.2.2 /\ x.2.2.2.2 < (↑x.2.2.2.1.length : Int) /\ x.2.2.2.2.toNat < x.2.2.2.1.length /\ (0 : Int) <= IntKind.i64.wrap ((aH x.1 (t.getD (0 : Nat) (0 :
 Int))).add (↑t.length : Int)) /\ IntKind.i64.wrap ((aH x.1 (t.getD (0 : Nat) (0 : Int))).add (↑t.length : Int)) <= (↑x.1.length : Int) /\ (↑x.1.length : Int) <= (↑x.1.length : Int) /\ ∃ (y : List Int × Int × Int × List (List Int) × Int), U.dh s t (List.take ((↑x.1.length : Int).toNat.sub (IntKind.i64.wrap ((aH x.1 (t.getD (0 : Nat) (0 : Int))).add (↑t.length : Int))).toNat)
 (List.drop (IntKind.i64.wrap ((aH x.1 (t.getD (0 : Nat) (0 : Int))).add (↑t.length : Int))).toNat x.1)) x.2.1 x.2.2.1 (x.2.2.2.1.set x.2.2.2.2.toNat (List.take ((IntKind.i64.wrap ((aH x.1 (t.getD (0 : Nat) (0 : Int))).add x.2.1)).toNat.sub (0 : Nat)) (List.drop (0 : Nat) x.1))) (IntKind.i64.wrap (x.2.2.2.2.add (1 : Int))) = U.dh s t y.1 y.2.1 y.2.2.1 y.2.2.2.1 y.2.2.2.2 /\
 U.dJ s t y.1 y.2.1 y.2.2.1 y.2.2.2.1 y.2.2.2.2 /\ (y.2.2.1.sub y.2.2.2.2).toNat < (x.2.2.1.sub x.2.2.2.2).toNat else (0 : Int) <= x.2.2.2.2 /\ x.2.2.2.2 < (↑x.2.2.2.1.length : Int) /\ x.2.2.2.2.toNat < x.2.2.2.1.length /\ (0 : Int) <= (0 : Int) /\ (0 : Int) <= IntKind.i64.wrap (x.2.2.2.2.add (1 : Int)) /\ IntKind.i64.wrap (x.2.2.2.2.add (1 : Int)) <= (↑(x.2.2.2.1.set x.2.2.2.2.toNat
 x.1).length : Int) /\ List.take ((IntKind.i64.wrap (x.2.2.2.2.add (1 : Int))).toNat.sub (0 : Nat)) (List.drop (0 : Nat) (x.2.2.2.1.set x.2.2.2.2.toNat x.1)) = U.split (t.getD (0 : Nat) (0 : Int)) s /\ True
def iV (l : List (List Int)) (z : List Int) : Prop := ∃ (x0 : Int), (U.dK l z (0 : Int) = U.dK l z x0 /\ U.dP l z x0) /\ ∀ (x : Int), U.dP l z x -> bif decide (x < (↑l.length : Int)) then (0 : Int) <= x /\ x < (↑l.length : Int) /\ bif z.beq (l.getD x.toNat []) then x =
 U.CO z l (0 : Int) /\ True else ∃ (y : Int), U.dK l z (IntKind.i64.wrap (x.add (1 : Int))) = U.dK l z y /\ U.dP l z y /\ l.length.sub y.toNat < l.length.sub x.toNat else (-1 : Int) = U.CO z l (0 : Int) /\ True
end Go.Proofs.YtkhdeldobekciaaDoor
set_option linter.unusedSimpArgs false
set_option linter.unusedVariables false
set_option maxRecDepth 100000
namespace Go.Proofs.YtkhdeldobekciaaDoor
open Go.Vc
open Go.Vc.T
theorem xB (s t : List Int) (h1 : t.length = 1) : iU s t := by
 unfold iU
 match t, h1 with
 | [c], _ =>
   simp only [cond_prop, iI, l9, decide_eq_true_eq, decide_eq_false_iff_not, iT]
   refine ⟨fun h => ⟨?_, trivial⟩, fun _ => ⟨fun _ => ⟨by omega, by simp, trivial, trivial⟩, fun h => (h (by rfl)).elim⟩⟩
   have h : [c] = s := by simpa using h
   subst h
   simp [aH]
theorem Az (c x : Int) (r : List Int) : U.split c (x :: r) = if x = c then [] :: U.split c r else (x :: (U.split c r).headD []) :: (U.split c r).tail := rfl
theorem uP (c : Int) : ∀ s, (U.split c s).length = gZ s c + 1
 | [] => rfl
 | x :: r => by
   have ih := uP c r
   rw [Az]
   unfold gZ at *
   rw [List.filter_cons]
   by_cases h : x = c
   ·rw [if_pos h, if_pos (by simpa using h), List.length_cons, List.length_cons, ih]
   ·rw [if_neg h, if_neg (by simpa using h), List.length_cons, List.length_tail, ih]; omega
theorem Om (c : Int) : ∀ s, aH s c < 0 -> U.split c s = [s]
 | [], _ => rfl
 | x :: r, h => by
   have hb := lM r c
   unfold aH at h
   by_cases hx : x = c
   ·simp [hx] at h
   ·by_cases hi : aH r c = -1
    ·have ih := Om c r (by omega)
     rw [Az, if_neg hx, ih]; rfl
    ·simp [hx, hi] at h; omega
theorem JE (c : Int) : ∀ (s : List Int), 0 <= aH s c -> U.split c s = s.take (aH s c).toNat :: U.split c (s.drop ((aH s c).toNat + 1))
 | [], h => by simp [aH] at h
 | x :: r, h => by
   have hb := lM r c
   by_cases hx : x = c
   ·simp [Az, aH, hx]
   ·by_cases hi : aH r c = -1
    ·simp [aH, hx, hi] at h
    ·have e : aH (x :: r) c = aH r c + 1 := by simp [aH, hx, hi]
     have ih := JE c r (by omega)
     rw [e, show (aH r c + 1).toNat = (aH r c).toNat + 1 by omega]
     rw [Az, if_neg hx, ih]; rfl
theorem aa3 {α : Type} {a b : List α} {x y : α} {n : Nat} (h : a.length = n) : (a ++ x :: b).set n y = a ++ y :: b := by
 subst h; rw [List.set_append, if_neg (by omega), Nat.sub_self]; rfl
theorem JF (s t : List Int) (sv n : Int) (h1 : t.length = 1) (h2 : sv = 0) (h3 : n = -1) (h4 : s.length <= 1000000000000) : pI s t sv n := by
 subst h2 h3
 unfold pI
 match t, h1 with
 | [c], _ =>
   have hl := uP c s
   have hc := YX s c
   have hg : [c].getD 0 0 = c := rfl
   rw [hg, show (List.filter (fun x => decide (x = c)) s).length = gZ s c from rfl]
   have w1 : IntKind.i64.wrap (Int.add (gZ s c : Int) 1) = (gZ s c : Int) + 1 := by rw [wrap_i64, bU]; omega
   have w2 : IntKind.i64.wrap (Int.add (s.length : Int) 1) = (s.length : Int) + 1 := by rw [wrap_i64, bU]; omega
   have w3 : bG ((gZ s c : Int) + 1) ((s.length : Int) + 1) = (gZ s c : Int) + 1 := by rw [YU]; omega
   have w4 : IntKind.i64.wrap (Int.sub ((gZ s c : Int) + 1) 1) = (gZ s c : Int) := by rw [wrap_i64, iJ]; omega
   rw [w1, w2, w3, w4, show decide ((-1 : Int) = 0) = false from rfl, show ([c].beq []) = false from rfl, show decide ((-1 : Int) < 0) = true from rfl, cond_false, cond_false, cond_true]
   simp only [cond_prop, decide_eq_true_eq, decide_eq_false_iff_not, bU, iJ, ji, dB, U.dJ, hg]
   refine ⟨rfl, by omega, by omega, by omega, by omega, (_, _, _, _, _), ⟨rfl, Nat.le_refl _, rfl, rfl, by simp, by simp, rfl, ?_⟩, ?_⟩
   ·simp only []; rw [show ((gZ s c : Int) + 1 - 0).toNat = ((gZ s c : Int) + 1).toNat by omega]; rfl
   rintro ⟨r, sv, n, a, i⟩ ⟨hrs, e1, e2, h0, h1, hr, ha⟩
   simp only [] at *
   subst e1 e2
   have hal : a.length = gZ s c + 1 := by rw [ha, List.length_append, List.length_take, List.length_replicate]; omega
   have hrl := congrArg List.length hr
   rw [List.length_drop, hl, uP c r] at hrl
   have htl : ((U.split c s).take i.toNat).length = i.toNat := by rw [List.length_take]; omega
   have wi : IntKind.i64.wrap (i + 1) = i + 1 := by rw [wrap_i64]; omega
   have hb := lM r c
   have hrep : List.replicate ((gZ s c : Int) + 1 - i).toNat ([] : List Int) = [] :: List.replicate ((gZ s c : Int) + 1 - (i + 1)).toNat [] := by
    rw [show ((gZ s c : Int) + 1 - i).toNat = ((gZ s c : Int) + 1 - (i + 1)).toNat + 1 by omega, List.replicate_succ]
   have fin : i = gZ s c -> List.take ((i + 1).toNat - 0) (List.drop 0 (a.set i.toNat r)) = U.split c s := by
    intro hi
    have hri : U.split c r = [r] := by
     refine Om c r ?_
     rcases Int.lt_or_le (aH r c) 0 with h | h
     ·exact h
     ·have := JE c r h
      have h5 := congrArg List.length this
      rw [List.length_cons, uP, uP] at h5
      omega
    have hd : U.split c s = (U.split c s).take i.toNat ++ [r] := by
     conv => lhs; rw [<- List.take_append_drop i.toNat (U.split c s), <- hr, hri]
    rw [List.drop_zero, ha, hrep, aa3 htl, show ((gZ s c : Int) + 1 - (i + 1)).toNat = 0 by omega, List.replicate_zero, <- hd, List.take_of_length_le (by omega)]
   rw [wi]
   refine ⟨fun hlt => ⟨rfl, fun hneg => ?_, fun hpos => ?_⟩, fun hge => ⟨by omega, by omega, by omega, by omega, by omega, by rw [List.length_set]; omega, fin (by omega), trivial⟩⟩
   ·have := Om c r hneg
    have h5 := congrArg List.length this
    rw [uP] at h5
    have : [r].length = 1 := rfl
    omega
   ·have hy := JE c r (by omega)
    have v1 : IntKind.i64.wrap (aH r c + 0) = aH r c := by rw [wrap_i64]; omega
    have v2 : IntKind.i64.wrap (aH r c + (([c].length : Nat) : Int)) = aH r c + 1 := by rw [wrap_i64]; show (aH r c + 1 + _) % _ - _ = _; omega
    have hdl : (r.drop (aH r c + 1).toNat).length = r.length - (aH r c + 1).toNat := List.length_drop
    rw [v1, v2, show ((r.length : Int)).toNat = r.length by omega, List.take_of_length_le (l := r.drop (aH r c + 1).toNat) (by omega), List.drop_zero, Nat.sub_zero]
    refine ⟨by omega, by omega, by omega, by omega, by omega, by omega, by omega, by omega, by omega, (_, _, _, _, _), rfl, ⟨by show (r.drop _).length <= _; omega, rfl, rfl, by show 0 <= i + 1; omega, by show i + 1 <= (gZ s c : Int); omega, ?_, ?_⟩, ?_⟩
    ·show U.split c (r.drop (aH r c + 1).toNat) = (U.split c s).drop (i + 1).toNat
     have h5 := congrArg (List.drop 1) hr
     rw [hy, List.drop_succ_cons, List.drop_zero, List.drop_drop] at h5
     rw [show (aH r c + 1).toNat = (aH r c).toNat + 1 by omega, h5]; congr 1; omega
    ·show a.set i.toNat (r.take (aH r c).toNat) = (U.split c s).take (i + 1).toNat ++ List.replicate ((gZ s c : Int) + 1 - (i + 1)).toNat []
     rw [ha, hrep, aa3 htl, show (i + 1).toNat = i.toNat + 1 by omega, List.take_succ_eq_append_getElem (by omega)]
     have h6 : (U.split c s)[i.toNat] = r.take (aH r c).toNat := by
      have h7 := congrArg (fun l => l[0]?) hr
      simp only [hy, List.getElem?_cons_zero, List.getElem?_drop, Nat.add_zero] at h7
      rw [List.getElem?_eq_getElem (by omega)] at h7
      exact (Option.some.inj h7).symm
     rw [h6]; simp
    ·show ((gZ s c : Int) - (i + 1)).toNat < ((gZ s c : Int) - i).toNat
     omega
theorem xC (l : List (List Int)) (z : List Int) (hl : l.length <= maxLen) : iV l z := by
 unfold iV
 rw [maxLen_eq] at hl
 simp only [cond_prop, bU, l9, dB, iT, U.dP, U.at_, wrap_i64, decide_eq_true_eq, decide_eq_false_iff_not, beq_iff_eq, beq_eq_false_iff_ne]
 refine ⟨0, ⟨rfl, ⟨by omega, by omega⟩, rfl⟩, ?_⟩
 rintro i ⟨⟨h0, h1⟩, h2⟩
 refine ⟨fun hi => ⟨h0, hi, fun he => ⟨?_, trivial⟩, fun he => ⟨i + 1, ?_, ⟨⟨by omega, by omega⟩, ?_⟩, by omega⟩⟩, fun hi => ⟨?_, trivial⟩⟩
 ·rw [drop_at h0 hi] at h2
  rw [getD_at (by omega)] at he
  rw [<- h2, U.CO, if_pos he.symm]
 ·rw [show (i + 1 + 9223372036854775808) % 18446744073709551616 - 9223372036854775808 = i + 1 by omega]
 ·rw [drop_at h0 hi] at h2
  rw [getD_at (by omega)] at he
  rw [<- h2, U.CO, if_neg (fun h => he h.symm)]
 ·rw [drop_end (by omega)] at h2
  rw [<- h2]; rfl
end Go.Proofs.YtkhdeldobekciaaDoor
set_option linter.unusedSimpArgs false
set_option maxRecDepth 100000
set_option linter.unusedVariables false
namespace Go.Proofs.YtkhdeldobekciaaDoor
open Go.Vc
theorem JG : bH Tryd.prog gl 45 yM := YW (fn := Tryd.f45) (by kernel_rfl) (by kernel_rfl) (by kernel_rfl) Tryd.strings_IndexByte
theorem IK : bn yN := .cons JG adA
theorem uU : bH Tryd.prog gl 61 kF := YW (fn := Tryd.f61) (by kernel_rfl) (by kernel_rfl) (by kernel_rfl) Tryd.stringslite_IndexByte
theorem tY : bn kG := .cons uU IK
theorem Rk : bH Tryd.prog gl 94 FH := abX (fn := Tryd.f94) (by kernel_rfl) (by kernel_rfl) (by kernel_rfl) Tryd.strings_Count_one
theorem P7 : bn FI := .cons Rk tY
theorem JH : bH Tryd.prog gl 77 yO := V8 (fn := Tryd.f77) (by kernel_rfl) (by kernel_rfl) (by kernel_rfl) Tryd.strings_EqualFold
theorem wL : bn kW := .cons JH P7
theorem yP (x : aQ [.str, .str]) : bY Tryd.prog (bC kW) (mW x.1 x.2) 89 (bV [.str, .str] x) [] (fQ x.1 x.2) = iU x.1 x.2 := by kernel_rfl
theorem yQ : Pok 89 [.str, .str] (fun x => fQ x.1 x.2) := by
 refine pk (L := fun x => mW x.1 x.2) (l := kW) wL (fun _ => rfl) ?_
 intro x hv hp
 rw [yP]
 exact xB x.1 x.2 (hp (List.length x.2 = 1) (by simp [fQ]))
theorem yR : bH Tryd.prog gl 89 mV := yQ
theorem mg : bn fU := .cons yR wL
theorem L9 (x : aQ [.str, .str, .int .i64, .int .i64]) : bY Tryd.prog (bC fU) (zY x.1 x.2.1 x.2.2.1 x.2.2.2) 86 (bV [.str, .str, .int .i64, .int .i64] x) [] (fM x.1 x.2.1 x.2.2.1 x.2.2.2) = pI x.1 x.2.1 x.2.2.1 x.2.2.2 := by kernel_rfl
theorem Mc : Pok 86 [.str, .str, .int .i64, .int .i64] (fun x => fM x.1 x.2.1 x.2.2.1 x.2.2.2) := by
 refine pk (L := fun x => zY x.1 x.2.1 x.2.2.1 x.2.2.2) (l := fU) mg (fun _ => rfl) ?_
 intro x hv hp
 rw [L9]
 exact JF x.1 x.2.1 x.2.2.1 x.2.2.2 (hp (List.length x.2.1 = 1) (by simp [fM])) (hp (x.2.2.1 = 0) (by simp [fM])) (hp (x.2.2.2 = -1) (by simp [fM])) (hp (List.length x.1 <= 1000000000000) (by simp [fM]))
theorem Md : bH Tryd.prog gl 86 zX := Mc
theorem yS : bn lS := .cons Md mg
theorem yT (x : aQ [DZ, .str]) : bY Tryd.prog (bC lS) (mY x.1 x.2) 87 (bV [DZ, .str] x) [] (jf x.1 x.2) = iV x.1 x.2 := by kernel_rfl
theorem yU : Pok 87 [DZ, .str] (fun x => jf x.1 x.2) := by
 refine pk (L := fun x => mY x.1 x.2) (l := lS) yS (fun _ => rfl) ?_
 intro x hv hp
 rw [yT]
 exact xC x.1 x.2 hv.1.2
theorem yV : bH Tryd.prog gl 87 mX := yU
theorem mD : bn fV := .cons yV yS
end Go.Proofs.YtkhdeldobekciaaDoor
