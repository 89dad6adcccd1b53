/- What functions of this seat compute, in plain Lean. -/
import Derived.Test.YtlmkekoenfelcaaDoorPA
import Derived.Test.YtlmkekoenfelcaaDoorPVcG
import Derived.Test.YtlmkekoenfelcaaDoorPY
set_option linter.unusedVariables false
set_option linter.unusedSimpArgs false
set_option maxRecDepth 100000
namespace Go.Proofs.YtlmkekoenfelcaaDoor
open Go.Vc
namespace U
def lastB (s : List Int) (c : Int) : Int := cond (decide (aH s.reverse c >= 0)) (s.length - 1 - aH s.reverse c) (-1)
end U
namespace U
def aV (s : List Int) (c : Int) (i : Int) : St2 := ⟨⟨[sS s] ++ [sK .u8 c] ++ U.n 3 ++ [sI i] ++ U.n 13, [], []⟩, 0, []⟩
def bF (s : List Int) (c : Int)  (i : Int) : Prop := -1 <= i /\ i < s.length /\ lastB (s.take (i + 1).toNat) c = lastB s c
def bY (s : List Int) (a : List Bool) (i : Int) : St2 := ⟨⟨[sS s] ++ U.n 1 ++ [sP 0 0] ++ U.n 1 ++ [sI i] ++ U.n 16, [], [(0, .obj [.arr 256 true .bool a])]⟩, 1, []⟩
def dU (s : List Int)  (a : List Bool) (i : Int) : Prop := at_ s i /\ a = cO (s.take i.toNat)
def dH (l : List Int) (n : Nat) : St2 := ⟨⟨[sS (l.take n)] ++ [sP 0 0] ++ U.n 20, [], [(0, .obj [.arr 256 true .bool (cO [32, 9])])]⟩, 1, []⟩
def dL (l : List Int)  (n : Nat) : Prop := n <= l.length /\ aB l <= n /\ aB (l.take n) = aB l
def bC (l : List Int) (k : Nat) : St2 := ⟨⟨[sS ((l.take (aB l)).drop k)] ++ [sP 0 0] ++ U.n 14, [], [(0, .obj [.arr 256 true .bool (cO [32, 9])])]⟩, 1, []⟩
def aP (l : List Int)  (k : Nat) : Prop := k <= dS (l.take (aB l)) /\ dS ((l.take (aB l)).drop k) + k = dS (l.take (aB l))
end U
def jv (s : List Int) (c : Int) : Vc.Loop := ⟨{ keep := [0, 1, 5] }, Int, fun x => U.aV s c x, fun x0 x => U.bF s c  x, fun x => (x + 1).toNat, fun p => ∀ x, p x, fun _ h => h⟩
def rY (s : List Int) : Vc.Loop := ⟨{ keep := [0, 2, 4] }, List Bool × Int, fun x => U.bY s x.1 x.2, fun x0 x => U.dU s  x.1 x.2, fun x => s.length - x.2.toNat, fun p => ∀ x, p x, fun _ h => h⟩
def pW (l : List Int) : Vc.Loop := ⟨{ keep := [0, 1] }, Nat, fun x => U.dH l x, fun x0 x => U.dL l  x, fun x => x, fun p => ∀ x, p x, fun _ h => h⟩
def qx (l : List Int) : Vc.Loop := ⟨{ keep := [0, 1] }, Nat, fun x => U.bC l x, fun x0 x => U.aP l  x, fun x => l.length - x, fun p => ∀ x, p x, fun _ h => h⟩
def pq : Vc.Sum := .gen (ckF 42)
def pz : List (Nat × Ent) := (30, .sum pq) :: o9
def tV : Vc.Sum := .gen (MZ 42 5)
def tX : List (Nat × Ent) := (22, .sum tV) :: pz
def gW : Vc.Sum := .pure [.str, .int .u8] false fun x => MX x.1 x.2
def bQ : List (Nat × Ent) := (50, .sum gW) :: tX
def dn (s : List Int) (t : List Int) : Done := ⟨[t.length = 1], .one (.int .i64 (aH s (t.getD 0 0))), [], []⟩
def jc : Vc.Sum := .pure [.str, .str] false fun x => dn x.1 x.2
def jd (s : List Int) (t : List Int) : Nat -> List V -> Nat -> Option Vc.Loop := CO
def dw : List (Nat × Ent) := (46, .sum jc) :: bQ
def mZ (s : List Int) (t : List Int) : Done := ⟨[t.length = 1], .tup [one (.str (U.nP s (t.getD 0 0))), one (.str (U.Jl s (t.getD 0 0))), one (.bool (decide (aH s (t.getD 0 0) >= 0)))], [], []⟩
def zi : Vc.Sum := .pure [.str, .str] false fun x => mZ x.1 x.2
def zk (s : List Int) (t : List Int) : Nat -> List V -> Nat -> Option Vc.Loop := CO
def ng : List (Nat × Ent) := (25, .sum zi) :: dw
def iO (s : List Int) (c : Int) : Done := rI (U.lastB s c)
def kP : Vc.Sum := .pure [.str, .int .u8] false fun x => iO x.1 x.2
def kQ (s : List Int) (c : Int) : Nat -> List V -> Nat -> Option Vc.Loop := fun f v k => cond (Nat.beq f 39 && Nat.beq k 2) (some (jv s c)) <| none
def eY : List (Nat × Ent) := (27, .sum kP) :: ng
def fG (s : List Int) : Done := ⟨[∀ c ∈ s, 0 <= c /\ c < 128], .tup [⟨true, [.arr 256 true .bool (U.cO s)]⟩, one (.bool true)], [], []⟩
def lZ : Vc.Sum := .pure [.str] false fun x => fG x
def l7 (s : List Int) : Nat -> List V -> Nat -> Option Vc.Loop := fun f v k => cond (Nat.beq f 33 && Nat.beq k 2) (some (rY s)) <| none
def fH : List (Nat × Ent) := (33, .sum lZ) :: eY
def kW (l : List Int) (c : List Int) : Done := ⟨[c = [32, 9]], .one (.str (U.trimB l)), [], []⟩
def xP : Vc.Sum := .pure [.str, .str] false fun x => kW x.1 x.2
def xQ (l : List Int) (c : List Int) : Nat -> List V -> Nat -> Option Vc.Loop := fun f v k => cond (Nat.beq f 35 && Nat.beq k 1) (some (pW l)) <| cond (Nat.beq f 34 && Nat.beq k 1) (some (qx l)) <| none
def kX : List (Nat × Ent) := (21, .sum xP) :: fH
end Go.Proofs.YtlmkekoenfelcaaDoor
set_option maxRecDepth 100000
set_option linter.unusedVariables false
namespace Go.Proofs.YtlmkekoenfelcaaDoor
open Go.Vc
def dY (s : List Int) (t : List Int) : Prop := bif bif decide ((↑t.length : Int) = (0 : Int)) then true else t.beq s then (0 : Int) = aH s (t.getD (0 : Nat) (0 : Int)) /\ True else bif decide ((↑t.length : Int) = (1 : Int)) then (0 : Int) <= (0 : Int) /\ (0 : Int) < (↑t.length : Int) /\ aH s (t.getD (0 : Nat) (0 : Int)) = aH s (t.getD (0 : Nat) (0 : Int)) /\ True else bif
 decide ((↑t.length : Int) >= (↑s.length : Int)) then (-1 : Int) = aH s (t.getD (0 : Nat) (0 : Int)) /\ True else False
def pX (s : List Int) (t : List Int) : Prop := t.length = (1 : Nat) /\ bif decide (aH s (t.getD (0 : Nat) (0 : Int)) >= (0 : Int)) then (0 : Int) <= (0 : Int) /\ (0 : Int) <= aH s (t.getD (0 : Nat) (0 : Int)) /\ aH s (t.getD (0 : Nat) (0 : Int)) <= (↑s.length : Int) /\ (0 : Int) <= IntKind.i64.wrap ((aH s (t.getD (0 : Nat) (0 : Int))).add (↑t.length : Int)) /\ IntKind.i64.wrap ((aH s
 (t.getD (0 : Nat) (0 : Int))).add (↑t.length : Int)) <= (↑s.length : Int) /\ (↑s.length : Int) <= (↑s.length : Int) /\ List.take ((aH s (t.getD (0 : Nat) (0 : Int))).toNat.sub (0 : Nat)) (List.drop (0 : Nat) s) = U.nP s (t.getD (0 : Nat) (0 : Int)) /\ List.take ((↑s.length : Int).toNat.sub (IntKind.i64.wrap ((aH s (t.getD (0 : Nat) (0 : Int))).add (↑t.length : Int))).toNat) (List.drop
 (IntKind.i64.wrap ((aH s (t.getD (0 : Nat) (0 : Int))).add (↑t.length : Int))).toNat s) = U.Jl s (t.getD (0 : Nat) (0 : Int)) /\ true = decide (aH s (t.getD (0 : Nat) (0 : Int)) >= (0 : Int)) /\ True else s = U.nP s (t.getD (0 : Nat) (0 : Int)) /\ [] = U.Jl s (t.getD (0 : Nat) (0 : Int)) /\ false = decide (aH s (t.getD (0 : Nat) (0 : Int)) >= (0 : Int)) /\ True
def gZ (s : List Int) (c : Int) : Prop := ∃ (x0 : Int), (U.aV s c (IntKind.i64.wrap ((↑s.length : Int).sub (1 : Int))) = U.aV s c x0 /\ U.bF s c x0) /\ ∀ (x : Int), U.bF s c x -> bif decide (x >= (0 : Int)) then (0 : Int) <= x /\ x <
 (↑s.length : Int) /\ bif decide (s.getD x.toNat (0 : Int) = c) then x = U.lastB s c /\ True else ∃ (y : Int), U.aV s c (IntKind.i64.wrap (x.sub (1 : Int))) = U.aV s c y /\ U.bF s c y /\ (y.add (1 : Int)).toNat < (x.add (1 : Int)).toNat else (-1 : Int) = U.lastB s c /\ True
def iP (s : List Int) : Prop := ∃ (x0 : List Bool × Int), (U.bY s [false, false, false, false, false, false, false, false, false, false, false, false, false, false, false, false, false, false, false, false, false, false, false, false, false, false, false, false, false, false, false, false, false, false, false, false, false, false, false, false, false,
 false, false, false, false, false, false, false, false, false, false, false, false, false, false, false, false, false, false, false, false, false, false, false, false, false, false, false, false, false, false, false, false, false, false, false, false, false, false, false, false, false, false, false, false, false, false, false, false, false, false, false, false, false, false, false, false, false,
 false, false, false, false, false, false, false, false, false, false, false, false, false, false, false, false, false, false, false, false, false, false, false, false, false, false, false, false, false, false, false, false, false, false, false, false, false, false, false, false, false, false, false, false, false, false, false, false, false, false, false, false, false, false, false, false, false,
 false, false, false, false, false, false, false, false, false, false, false, false, false, false, false, false, false, false, false, false, false, false, false, false, false, false, false, false, false, false, false, false, false, false, false, false, false, false, false, false, false, false, false, false, false, false, false, false, false, false, false, false, false, false, false, false, false,
 false, false, false, false, false, false, false, false, false, false, false, false, false, false, false, false, false, false, false, false, false, false, false, false, false, false, false, false, false, false, false, false, false, false, false, false, false, false, false, false, false, false, false, false] (0 : Int) = U.bY s x0.1 x0.2 /\ U.dU s x0.1 x0.2) /\
 ∀ (x : List Bool × Int), U.dU s x.1 x.2 -> bif decide (x.2 < (↑s.length : Int)) then (0 : Int) <= x.2 /\ x.2 < (↑s.length : Int) /\ bif decide (s.getD x.2.toNat (0 : Int) >= (128 : Int)) then x.1 = U.cO s /\ false = true /\ True else (0 : Int) <= s.getD x.2.toNat (0 : Int) /\ s.getD x.2.toNat (0 : Int) < (↑(256 : Nat) : Int) /\ (s.getD x.2.toNat (0 : Int)).toNat < (256 : Nat) /\ ∃ (y
 : List Bool × Int), U.bY s (x.1.set (s.getD x.2.toNat (0 : Int)).toNat true) (IntKind.i64.wrap (x.2.add (1 : Int))) = U.bY s y.1 y.2 /\ U.dU s y.1 y.2 /\ s.length.sub y.2.toNat < s.length.sub x.2.toNat else x.1 = U.cO s /\ true = true /\ True
def nR (l : List Int) (c : List Int) : Prop := bif bif l.beq [] then true else c.beq [] then l = U.trimB l /\ True else (decide ((↑c.length : Int) = (1 : Int)) = true -> (0 : Int) <= (0 : Int)) /\ (decide ((↑c.length : Int) = (1 : Int)) = true -> (0 : Int) < (↑c.length : Int)) /\ bif bif decide ((↑c.length : Int) = (1 : Int)) then decide (c.getD (0 : Nat) (0 : Int) < (128 : Int)) else false
 then False else (∀ (c_1 : Int), List.Mem c_1 c -> (0 : Int) <= c_1 /\ c_1 < (128 : Int)) /\ ∃ (x0 : Nat), ((⟨⟨[U.sS l] ++ [U.sP 0 0] ++ U.n 20, [], [((0 : Nat), .obj [.arr (256 : Nat) (true || true) Ty.bool (U.cO c)])]⟩, (1 : Nat), []⟩ : St2) = U.dH l x0 /\ U.dL l x0) /\ ∀ (x : Nat), U.dL l x -> bif decide ((↑(List.take x l).length
 : Int) > (0 : Int)) then (0 : Int) <= IntKind.i64.wrap ((↑(List.take x l).length : Int).sub (1 : Int)) /\ IntKind.i64.wrap ((↑(List.take x l).length : Int).sub (1 : Int)) < (↑(List.take x l).length : Int) /\ (0 : Int) <= (List.take x l).getD (IntKind.i64.wrap ((↑(List.take x l).length : Int).sub (1 : Int))).toNat (0 : Int) /\ (List.take x l).getD (IntKind.i64.wrap ((↑(List.take x l).length : Int).sub (1
 : Int))).toNat (0 : Int) < (↑(256 : Nat) : Int) /\ ((List.take x l).getD (IntKind.i64.wrap ((↑(List.take x l).length : Int).sub (1 : Int))).toNat (0 : Int)).toNat < (256 : Nat) /\ bif !(U.cO [(32 : Int), (9 : Int)]).getD ((List.take x l).getD (IntKind.i64.wrap ((↑(List.take x l).length : Int).sub (1 : Int))).toNat (0 : Int)).toNat false then ∃ (x0 : Nat), ((⟨⟨[U.sS (List.take x l)] ++ [U.sP 0 0]
 ++ U.n 14, [], [((0 : Nat), .obj [.arr (256 : Nat) (true || true) Ty.bool (U.cO [(32 : Int), (9 : Int)])])]⟩, (1 : Nat), []⟩ : St2) = U.bC l x0 /\ U.aP l x0) /\ ∀ (x : Nat), U.aP l x -> bif decide ((↑(List.drop x (List.take (U.aB l) l)).length : Int) > (0 : Int)) then (0 : Int) <= (0 : Int) /\ (0 : Int) < (↑(List.drop x (List.take
 (U.aB l) l)).length : Int) /\ (0 : Int) <= (List.drop x (List.take (U.aB l) l)).getD (0 : Nat) (0 : Int) /\ (List.drop x (List.take (U.aB l) l)).getD (0 : Nat) (0 : Int) < (↑(256 : Nat) : Int) /\ ((List.drop x (List.take (U.aB l) l)).getD (0 : Nat) (0 : Int)).toNat < (256 : Nat) /\ bif !(U.cO [(32 : Int), (9 : Int)]).getD ((List.drop x (List.take (U.aB l) l)).getD (0 : Nat) (0 :
 Int)).toNat false then List.drop x (List.take (U.aB l) l) = U.trimB l /\ True else (0 : Int) <= (1 : Int) /\ (1 : Int) <= (↑(List.drop x (List.take (U.aB l) l)).length : Int) /\ (↑(List.drop x (List.take (U.aB l) l)).length : Int) <= (↑(List.drop x (List.take (U.aB l) l)).length : Int) /\ ∃ (y : Nat), (⟨⟨[U.sS (List.take ((↑(List.drop x (List.take (U.aB l) l)).length : Int).toNat.sub (1 :
 Nat)) (List.drop (1 : Nat) (List.drop x (List.take (U.aB l) l))))] ++ [U.sP 0 0] ++ U.n 14, [], [((0 : Nat), .obj [.arr (256 : Nat) (true || true) Ty.bool (U.cO [(32 : Int), (9 : Int)])])]⟩, (1 : Nat), []⟩ : St2) = U.bC l y /\ U.aP l y /\ l.length.sub y < l.length.sub x else List.drop x (List.take (U.aB l) l) = U.trimB l /\ True else (0 : Int) <=
 (0 : Int) /\ (0 : Int) <= IntKind.i64.wrap ((↑(List.take x l).length : Int).sub (1 : Int)) /\ IntKind.i64.wrap ((↑(List.take x l).length : Int).sub (1 : Int)) <= (↑(List.take x l).length : Int) /\ ∃ (y : Nat), (⟨⟨[U.sS (List.take ((IntKind.i64.wrap ((↑(List.take x l).length : Int).sub (1 : Int))).toNat.sub (0 : Nat)) (List.drop (0 : Nat) (List.take x l)))] ++ [U.sP 0 0] ++ U.n 20, [], [((0 : Nat), .obj
 [.arr (256 : Nat) (true || true) Ty.bool (U.cO [(32 : Int), (9 : Int)])])]⟩, (1 : Nat), []⟩ : St2) = U.dH l y /\ U.dL l y /\ y < x else ∃ (x0 : Nat), ((⟨⟨[U.sS (List.take x l)] ++ [U.sP 0 0] ++ U.n 14, [], [((0 : Nat), .obj [.arr (256 : Nat) (true || true) Ty.bool (U.cO [(32 : Int), (9 : Int)])])]⟩, (1 : Nat), []⟩ : St2) =
 U.bC l x0 /\ U.aP l x0) /\ ∀ (x : Nat), U.aP l x -> bif decide ((↑(List.drop x (List.take (U.aB l) l)).length : Int) > (0 : Int)) then (0 : Int) <= (0 : Int) /\ (0 : Int) < (↑(List.drop x (List.take (U.aB l) l)).length : Int) /\ (0 : Int) <= (List.drop x (List.take (U.aB l) l)).getD (0 : Nat) (0 : Int) /\ (List.drop x (List.take
 (U.aB l) l)).getD (0 : Nat) (0 : Int) < (↑(256 : Nat) : Int) /\ ((List.drop x (List.take (U.aB l) l)).getD (0 : Nat) (0 : Int)).toNat < (256 : Nat) /\ bif !(U.cO [(32 : Int), (9 : Int)]).getD ((List.drop x (List.take (U.aB l) l)).getD (0 : Nat) (0 : Int)).toNat false then List.drop x (List.take (U.aB l) l) = U.trimB l /\ True else (0 : Int) <= (1 : Int) /\ (1 : Int) <= (↑(List.drop x
 (List.take (U.aB l) l)).length : Int) /\ (↑(List.drop x (List.take (U.aB l) l)).length : Int) <= (↑(List.drop x (List.take (U.aB l) l)).length : Int) /\ ∃ (y : Nat), (⟨⟨[U.sS (List.take ((↑(List.drop x (List.take (U.aB l) l)).length : Int).toNat.sub (1 : Nat)) (List.drop (1 : Nat) (List.drop x (List.take (U.aB l) l))))] ++ [U.sP 0 0] ++ U.n 14, [], [((0 : Nat), .obj [.arr (256 : Nat)
 (true || true) Ty.bool (U.cO [(32 : Int), (9 : Int)])])]⟩, (1 : Nat), []⟩ : St2) = U.bC l y /\ U.aP l y /\ l.length.sub y < l.length.sub x else List.drop x (List.take (U.aB l) l) = U.trimB l /\ True
end Go.Proofs.YtlmkekoenfelcaaDoor
set_option linter.unusedSimpArgs false
set_option linter.unusedVariables false
set_option maxRecDepth 100000
namespace Go.Proofs.YtlmkekoenfelcaaDoor
open Go.Vc
open Go.Vc.T
theorem nT (s t : List Int) (h1 : t.length = 1) : dY s t := by
 unfold dY
 match t, h1 with
 | [c], _ =>
   simp only [cond_prop, zX, Qc, decide_eq_true_eq, decide_eq_false_iff_not, Jf]
   refine ⟨fun h => ⟨?_, trivial⟩, fun _ => ⟨fun _ => ⟨by omega, by simp, trivial, trivial⟩, fun h => (h (by rfl)).elim⟩⟩
   have h : [c] = s := by simpa using h
   subst h
   simp [aH]
theorem Gu (s t : List Int) (hs : s.length <= maxLen) (h : t.length = 1) : pX s t := by
 unfold pX U.nP U.Jl
 rw [maxLen_eq] at hs
 have hb := eU s (t.getD 0 0)
 refine ⟨h, ?_⟩
 by_cases hi : aH s (t.getD 0 0) >= 0
 ·rw [decide_eq_true hi, iJ (by omega) (by omega)]
  refine ⟨by omega, by omega, by omega, by omega, by omega, by omega, rfl, ?_, rfl, trivial⟩
  rw [rW, h]; rfl
 ·rw [decide_eq_false hi]
  exact ⟨rfl, rfl, rfl, trivial⟩
theorem Nb (s : List Int) (x c : Int) : U.lastB (s ++ [x]) c = if x = c then (s.length : Int) else U.lastB s c := by
 unfold U.lastB
 rw [List.reverse_append, List.length_append]
 show cond (decide (aH (x :: s.reverse) c >= 0)) (((s.length + 1 : Nat) : Int) - 1 - aH (x :: s.reverse) c) (-1) = _
 rw [rX]
 have hb := eU s.reverse c
 by_cases hx : x = c
 ·rw [if_pos hx, if_pos hx]; show ((s.length + 1 : Nat) : Int) - 1 - 0 = _; omega
 ·rw [if_neg hx, if_neg hx]
  by_cases hn : aH s.reverse c = -1
  ·rw [if_pos hn, hn]; rfl
  ·rw [if_neg hn, decide_eq_true (by omega : aH s.reverse c + 1 >= 0), decide_eq_true (by omega : aH s.reverse c >= 0)]
   show ((s.length + 1 : Nat) : Int) - 1 - (aH s.reverse c + 1) = (s.length : Int) - 1 - aH s.reverse c; omega
theorem sN (s : List Int) (c : Int) (hs : s.length <= maxLen) : gZ s c := by
 unfold gZ
 rw [maxLen_eq] at hs
 rw [Aa (by omega) (by omega)]
 refine ⟨(s.length : Int) - 1, ⟨rfl, by omega, by omega, by rw [xA (by omega)]⟩, ?_⟩
 rintro i ⟨i0, i1, hI⟩
 rw [cond_prop]
 refine ⟨fun hi => ?_, fun hi => ?_⟩
 ·have hi : i >= 0 := of_decide_eq_true hi
  rw [getD_at (by omega : i.toNat < s.length), Aa (by omega) (by omega)]
  rw [take_at hi i1, Nb] at hI
  refine ⟨hi, i1, ?_⟩
  rw [cond_prop]
  refine ⟨fun hx => ?_, fun hx => ?_⟩
  ·rw [if_pos (of_decide_eq_true hx), List.length_take] at hI
   exact ⟨by omega, trivial⟩
  ·rw [if_neg (of_decide_eq_false hx)] at hI
   refine ⟨i - 1, rfl, ⟨by omega, by omega, ?_⟩, by simp only [Qd]; omega⟩
   rw [Int.sub_add_cancel]; exact hI
 ·have hi : ¬ i >= 0 := of_decide_eq_false hi
  rw [show (i + 1).toNat = 0 by omega, List.take_zero] at hI
  exact ⟨hI, trivial⟩
theorem uH (s : List Int) (hs : s.length <= maxLen) (hc : ∀ c ∈ s, 0 <= c /\ c < 128) : iP s := by
 unfold iP
 rw [maxLen_eq] at hs
 refine ⟨(List.replicate 256 false, 0), ⟨rfl, ⟨Int.le_refl 0, by show (0 : Int) <= _; omega⟩, rfl⟩, ?_⟩
 rintro ⟨a, i⟩ ⟨⟨i0, i1⟩, ha⟩
 dsimp only at i0 i1 ha ⊢
 rw [cond_prop]
 refine ⟨fun hi => ?_, fun hi => ?_⟩
 ·have hi : i < s.length := of_decide_eq_true hi
  have hx := hc (s[i.toNat]'(by omega)) (List.getElem_mem _)
  rw [getD_at (by omega : i.toNat < s.length)]
  refine ⟨i0, hi, ?_⟩
  rw [decide_eq_false (by omega : ¬ s[i.toNat] >= 128), iJ (by omega) (by omega)]
  refine ⟨hx.1, by omega, by omega, (a.set s[i.toNat].toNat true, i + 1), rfl, ⟨⟨by show 0 <= i + 1; omega, by show i + 1 <= _; omega⟩, ?_⟩, by simp only [bZ]; omega⟩
  show a.set _ true = U.cO (s.take (i + 1).toNat)
  rw [take_at i0 hi]; unfold U.cO at *; rw [List.foldl_append, <- ha]; rfl
 ·have hi : ¬ i < s.length := of_decide_eq_false hi
  rw [xA (by omega)] at ha
  exact ⟨ha, rfl, trivial⟩
theorem EO (l c : List Int) (hv : Valid .str l) (hc : c = [32, 9]) : nR l c := by
 subst hc
 have hl : l.length <= 9223372036854775807 := hv.2
 have hT := BL l
 have hb : ∀ x ∈ l, 0 <= x /\ x <= 255 := fun x hx => hv.1 x hx
 unfold nR
 rw [cond_prop]
 refine ⟨fun h0 => ?_, fun h0 => ?_⟩
 ·rw [zX, EN, EN] at h0
  simp only [Bool.or_eq_true, decide_eq_true_eq] at h0
  rcases h0 with rfl | h0
  ·exact ⟨rfl, trivial⟩
  ·cases h0
 show (decide (((([32, 9] : List Int).length : Nat) : Int) = 1) = true -> _) /\ _
 refine ⟨fun _ => by omega, fun _ => by decide, ?_⟩
 show (∀ c : Int, List.Mem c [32, 9] -> 0 <= c /\ c < 128) /\ _
 refine ⟨fun c hc => ?_, ?_⟩
 ·have hc : c ∈ [32, 9] := hc
  simp only [List.mem_cons, List.not_mem_nil, or_false] at hc
  rcases hc with rfl | rfl <;> omega
 have left : ∃ (x0 : Nat), ((⟨⟨[U.sS (List.take (U.aB l) l)] ++ [U.sP 0 0] ++ U.n 14, [], [(0, .obj [.arr 256 (true || true) Ty.bool (U.cO [32, 9])])]⟩, 1, []⟩ : St2) = U.bC l x0 /\ U.aP l x0) /\ ∀ (x : Nat), U.aP l x ->
  bif decide (((List.drop x (List.take (U.aB l) l)).length : Int) > 0) then (0 : Int) <= 0 /\ (0 : Int) < ((List.drop x (List.take (U.aB l) l)).length : Int) /\ 0 <= (List.drop x (List.take (U.aB l) l)).getD 0 0 /\ (List.drop x (List.take (U.aB l) l)).getD 0 0 < ((256 : Nat) : Int) /\ ((List.drop x (List.take (U.aB l) l)).getD 0 0).toNat < 256 /\
   bif !(U.cO [32, 9]).getD ((List.drop x (List.take (U.aB l) l)).getD 0 0).toNat false then List.drop x (List.take (U.aB l) l) = U.trimB l /\ True
   else (0 : Int) <= 1 /\ (1 : Int) <= ((List.drop x (List.take (U.aB l) l)).length : Int) /\ ((List.drop x (List.take (U.aB l) l)).length : Int) <= ((List.drop x (List.take (U.aB l) l)).length : Int) /\ ∃ (y : Nat), (⟨⟨[U.sS (List.take (((List.drop x (List.take (U.aB l) l)).length : Int).toNat.sub 1) (List.drop 1 (List.drop x (List.take (U.aB l) l))))] ++ [U.sP 0 0] ++ U.n 14, [], [(0, .obj [.arr 256 (true || true) Ty.bool (U.cO [32, 9])])]⟩, 1, []⟩ : St2) = U.bC l y /\ U.aP l y /\ l.length.sub y < l.length.sub x
  else List.drop x (List.take (U.aB l) l) = U.trimB l /\ True := by
  refine ⟨0, ⟨rfl, Nat.zero_le _, by rw [List.drop_zero, Nat.add_zero]⟩, ?_⟩
  rintro k ⟨k1, k2⟩
  have hml : (l.take (U.aB l)).length = U.aB l := by rw [List.length_take]; omega
  have fin : U.dS ((l.take (U.aB l)).drop k) = 0 -> List.drop k (List.take (U.aB l) l) = U.trimB l /\ True := fun hz => by
   refine ⟨?_, trivial⟩
   unfold U.trimB; rw [show k = U.dS (l.take (U.aB l)) by omega]
  have hle := Jm (l.take (U.aB l))
  rw [cond_prop]
  refine ⟨fun hn => ?_, fun hn => ?_⟩
  ·have hn : ((List.drop k (List.take (U.aB l) l)).length : Int) > 0 := of_decide_eq_true hn
   have hk : k < (l.take (U.aB l)).length := by rw [List.length_drop] at hn; omega
   have hd : (l.take (U.aB l)).drop k = (l.take (U.aB l))[k] :: (l.take (U.aB l)).drop (k + 1) := List.drop_eq_getElem_cons hk
   have hg : ((l.take (U.aB l)).drop k).getD 0 0 = (l.take (U.aB l))[k] := by rw [hd]; rfl
   have hbb := hb _ (List.mem_of_mem_take (List.getElem_mem hk))
   rw [hg]
   refine ⟨by omega, hn, hbb.1, by omega, by omega, ?_⟩
   rw [KZ hbb.1 (by omega)]
   cases hbl : U.blank (l.take (U.aB l))[k] with
   | false =>
     refine fin ?_
     rw [hd, U.dS, hbl]; rfl
   | true =>
     have hN : U.dS ((l.take (U.aB l)).drop k) = U.dS ((l.take (U.aB l)).drop (k + 1)) + 1 := by rw [hd, U.dS, hbl]; rfl
     refine ⟨by omega, by omega, by omega, k + 1, ?_, ⟨by omega, by omega⟩, by simp only [bZ]; rw [hml] at hk; omega⟩
     rw [rW, List.drop_drop]; rfl
  ·have hn : ¬ ((List.drop k (List.take (U.aB l) l)).length : Int) > 0 := of_decide_eq_false hn
   refine fin ?_
   rw [List.length_eq_zero_iff.1 (by omega : (List.drop k (List.take (U.aB l) l)).length = 0)]; rfl
 refine ⟨l.length, ⟨by unfold U.dH; rw [List.take_length]; rfl, Nat.le_refl _, hT, by rw [List.take_length]⟩, ?_⟩
 rintro n ⟨n1, n2, n3⟩
 have hnl : (l.take n).length = n := by rw [List.length_take]; omega
 rw [hnl, cond_prop]
 refine ⟨fun hn => ?_, fun hn => ?_⟩
 ·have hn : (n : Int) > 0 := of_decide_eq_true hn
  rw [Aa (by omega) (by omega)]
  have hk : ((n : Int) - 1).toNat = n - 1 := by omega
  rw [hk]
  have hg : (l.take n).getD (n - 1) 0 = l[n - 1]'(by omega) := by rw [getD_at (by omega), List.getElem_take]
  have hbb := hb _ (List.getElem_mem (by omega : n - 1 < l.length))
  rw [hg]
  have ht : l.take n = l.take (n - 1) ++ [l[n - 1]'(by omega)] := by
   conv => lhs; rw [show n = (n - 1) + 1 by omega]
   rw [List.take_succ_eq_append_getElem (by omega)]
  have hs := xC (l.take (n - 1)) (l[n - 1]'(by omega))
  rw [<- ht, n3, List.length_take, Nat.min_eq_left (by omega)] at hs
  refine ⟨by omega, by omega, hbb.1, by omega, by omega, ?_⟩
  rw [KZ hbb.1 (by omega)]
  cases hbl : U.blank (l[n - 1]'(by omega)) with
  | false =>
    rw [hbl] at hs
    have hs : U.aB l = n - 1 + 1 := hs
    have hx : l.take n = l.take (U.aB l) := by rw [hs]; congr 1; omega
    rw [hx]; exact left
  | true =>
    rw [hbl] at hs
    have hs : U.aB l = U.aB (l.take (n - 1)) := hs
    have hle := BL (l.take (n - 1))
    rw [List.length_take] at hle
    refine ⟨by omega, by omega, by omega, n - 1, ?_, ⟨by omega, by omega, hs.symm⟩, by omega⟩
    rw [Oa, List.take_take, Nat.min_eq_left (by omega)]; rfl
 ·have hn : ¬ (n : Int) > 0 := of_decide_eq_false hn
  have hx : l.take n = l.take (U.aB l) := by rw [show n = 0 by omega, show U.aB l = 0 by omega]
  rw [hx]; exact left
end Go.Proofs.YtlmkekoenfelcaaDoor
set_option linter.unusedSimpArgs false
set_option maxRecDepth 100000
set_option linter.unusedVariables false
namespace Go.Proofs.YtlmkekoenfelcaaDoor
open Go.Vc
theorem zl : fF Tryd.prog gl 30 pq := RU (fn := Tryd.f30) Tryd.func30 (by kernel_rfl) rfl Tryd.ckFresh Tryd.ckUsed
theorem xZ : dG pz := .cons zl xY
theorem DZ : fF Tryd.prog gl 22 tV := QM (fn := Tryd.f22) Tryd.func22 (by kernel_rfl) rfl (Gs Tryd.lays169 Tryd.Builder_Extra_169) (Gt Tryd.lays169 Tryd.Builder_Extra_169)
theorem BM : dG tX := .cons DZ xZ
theorem mg : fF Tryd.prog gl 50 gW := KX (fn := Tryd.f50) (by kernel_rfl) (by kernel_rfl) (by kernel_rfl) Tryd.stringslite_IndexByte
theorem gQ : dG bQ := .cons mg BM
theorem pF (x : aT [.str, .str]) : jk Tryd.prog (eX bQ) (jd x.1 x.2) 46 (fQ [.str, .str] x) [] (dn x.1 x.2) = dY x.1 x.2 := by kernel_rfl
theorem pG : Pok 46 [.str, .str] (fun x => dn x.1 x.2) := by
 refine pk (L := fun x => jd x.1 x.2) (l := bQ) gQ (fun _ => rfl) ?_
 intro x hv hp
 rw [pF]
 exact nT x.1 x.2 (hp (List.length x.2 = 1) (by simp [dn]))
theorem pI : fF Tryd.prog gl 46 jc := pG
theorem iW : dG dw := .cons pI gQ
theorem Jp (x : aT [.str, .str]) : jk Tryd.prog (eX dw) (zk x.1 x.2) 25 (fQ [.str, .str] x) [] (mZ x.1 x.2) = pX x.1 x.2 := by kernel_rfl
theorem Jq : Pok 25 [.str, .str] (fun x => mZ x.1 x.2) := by
 refine pk (L := fun x => zk x.1 x.2) (l := dw) iW (fun _ => rfl) ?_
 intro x hv hp
 rw [Jp]
 exact Gu x.1 x.2 hv.1.2 (hp (List.length x.2 = 1) (by simp [mZ]))
theorem Jr : fF Tryd.prog gl 25 zi := Jq
theorem xR : dG ng := .cons Jr iW
theorem uI (x : aT [.str, .int .u8]) : jk Tryd.prog (eX ng) (kQ x.1 x.2) 27 (fQ [.str, .int .u8] x) [] (iO x.1 x.2) = gZ x.1 x.2 := by kernel_rfl
theorem uJ : Pok 27 [.str, .int .u8] (fun x => iO x.1 x.2) := by
 refine pk (L := fun x => kQ x.1 x.2) (l := ng) xR (fun _ => rfl) ?_
 intro x hv hp
 rw [uI]
 exact sN x.1 x.2 hv.1.2
theorem uK : fF Tryd.prog gl 27 kP := uJ
theorem kF : dG eY := .cons uK xR
theorem vN (x : aT [.str]) : jk Tryd.prog (eX eY) (l7 x) 33 (fQ [.str] x) [] (fG x) = iP x := by kernel_rfl
theorem vO : Pok 33 [.str] (fun x => fG x) := by
 refine pk (L := fun x => l7 x) (l := eY) kF (fun _ => rfl) ?_
 intro x hv hp
 rw [vN]
 exact uH x hv.2 (hp (∀ c ∈ x, 0 <= c /\ c < 128) (by simp [fG]))
theorem vP : fF Tryd.prog gl 33 lZ := vO
theorem kR : dG fH := .cons vP kF
theorem Gv (x : aT [.str, .str]) : jk Tryd.prog (eX fH) (xQ x.1 x.2) 21 (fQ [.str, .str] x) [] (kW x.1 x.2) = nR x.1 x.2 := by kernel_rfl
theorem Gw : Pok 21 [.str, .str] (fun x => kW x.1 x.2) := by
 refine pk (L := fun x => xQ x.1 x.2) (l := fH) kR (fun _ => rfl) ?_
 intro x hv hp
 rw [Gv]
 exact EO x.1 x.2 hv.1 (hp (x.2 = [32, 9]) (by simp [kW]))
theorem Gx : fF Tryd.prog gl 21 xP := Gw
theorem vS : dG kX := .cons Gx kR
end Go.Proofs.YtlmkekoenfelcaaDoor
