/- What functions of this seat compute, in plain Lean. -/
import Derived.Test.YtlmkekoenfelcaaDoorAA
import Derived.Test.YtlmkekoenfelcaaDoorAVcG
import Derived.Test.YtlmkekoenfelcaaDoorAY
set_option linter.unusedVariables false
set_option linter.unusedSimpArgs false
set_option maxRecDepth 100000
namespace Go.Proofs.YtlmkekoenfelcaaDoor
open Go.Vc
namespace U
def lastB (s : List Int) (c : Int) : Int := cond (decide (aK s.reverse c >= 0)) (s.length - 1 - aK s.reverse c) (-1)
end U
namespace U
def aU (s : List Int) (c : Int) (i : Int) : St2 := ⟨⟨[sS s] ++ [sK .u8 c] ++ U.n 3 ++ [sI i] ++ U.n 13, [], []⟩, 0, []⟩
def bD (s : List Int) (c : Int)  (i : Int) : Prop := -1 <= i /\ i < s.length /\ lastB (s.take (i + 1).toNat) c = lastB s c
def bY (s : List Int) (a : List Bool) (i : Int) : St2 := ⟨⟨[sS s] ++ U.n 1 ++ [sP 0 0] ++ U.n 1 ++ [sI i] ++ U.n 16, [], [(0, .obj [.arr 256 true .bool a])]⟩, 1, []⟩
def dU (s : List Int)  (a : List Bool) (i : Int) : Prop := at_ s i /\ a = cO (s.take i.toNat)
def dH (l : List Int) (n : Nat) : St2 := ⟨⟨[sS (l.take n)] ++ [sP 0 0] ++ U.n 20, [], [(0, .obj [.arr 256 true .bool (cO [32, 9])])]⟩, 1, []⟩
def dM (l : List Int)  (n : Nat) : Prop := n <= l.length /\ aB l <= n /\ aB (l.take n) = aB l
def bn (l : List Int) (k : Nat) : St2 := ⟨⟨[sS ((l.take (aB l)).drop k)] ++ [sP 0 0] ++ U.n 14, [], [(0, .obj [.arr 256 true .bool (cO [32, 9])])]⟩, 1, []⟩
def aO (l : List Int)  (k : Nat) : Prop := k <= gV (l.take (aB l)) /\ gV ((l.take (aB l)).drop k) + k = gV (l.take (aB l))
end U
def jq (s : List Int) (c : Int) : Vc.Loop := ⟨{ keep := [0, 1, 5] }, Int, fun x => U.aU s c x, fun x0 x => U.bD s c  x, fun x => (x + 1).toNat, fun p => ∀ x, p x, fun _ h => h⟩
def rJ (s : List Int) : Vc.Loop := ⟨{ keep := [0, 2, 4] }, List Bool × Int, fun x => U.bY s x.1 x.2, fun x0 x => U.dU s  x.1 x.2, fun x => s.length - x.2.toNat, fun p => ∀ x, p x, fun _ h => h⟩
def pq (l : List Int) : Vc.Loop := ⟨{ keep := [0, 1] }, Nat, fun x => U.dH l x, fun x0 x => U.dM l  x, fun x => x, fun p => ∀ x, p x, fun _ h => h⟩
def pX (l : List Int) : Vc.Loop := ⟨{ keep := [0, 1] }, Nat, fun x => U.bn l x, fun x0 x => U.aO l  x, fun x => l.length - x, fun p => ∀ x, p x, fun _ h => h⟩
def oN : Vc.Sum := .gen (ckF 42)
def oO : List (Nat × Ent) := (30, .sum oN) :: oM
def sV : Vc.Sum := .gen (LY 42 5)
def sW : List (Nat × Ent) := (22, .sum sV) :: oO
def gX : Vc.Sum := .pure [.str, .int .u8] false fun x => LX x.1 x.2
def bQ : List (Nat × Ent) := (50, .sum gX) :: sW
def dw (s : List Int) (t : List Int) : Done := ⟨[t.length = 1], .one (.int .i64 (aK s (t.getD 0 0))), [], []⟩
def jc : Vc.Sum := .pure [.str, .str] false fun x => dw x.1 x.2
def jd (s : List Int) (t : List Int) : Nat -> List V -> Nat -> Option Vc.Loop := Gu
def dA : List (Nat × Ent) := (46, .sum jc) :: bQ
def mQ (s : List Int) (t : List Int) : Done := ⟨[t.length = 1], .tup [one (.str (U.rG s (t.getD 0 0))), one (.str (U.IG s (t.getD 0 0))), one (.bool (decide (aK s (t.getD 0 0) >= 0)))], [], []⟩
def yQ : Vc.Sum := .pure [.str, .str] false fun x => mQ x.1 x.2
def yR (s : List Int) (t : List Int) : Nat -> List V -> Nat -> Option Vc.Loop := Gu
def mV : List (Nat × Ent) := (25, .sum yQ) :: dA
def iQ (s : List Int) (c : Int) : Done := rI (U.lastB s c)
def kL : Vc.Sum := .pure [.str, .int .u8] false fun x => iQ x.1 x.2
def kM (s : List Int) (c : Int) : Nat -> List V -> Nat -> Option Vc.Loop := fun f v k => cond (Nat.beq f 39 && Nat.beq k 2) (some (jq s c)) <| none
def eU : List (Nat × Ent) := (27, .sum kL) :: mV
def fE (s : List Int) : Done := ⟨[∀ c ∈ s, 0 <= c /\ c < 128], .tup [⟨true, [.arr 256 true .bool (U.cO s)]⟩, one (.bool true)], [], []⟩
def lV : Vc.Sum := .pure [.str] false fun x => fE x
def lW (s : List Int) : Nat -> List V -> Nat -> Option Vc.Loop := fun f v k => cond (Nat.beq f 33 && Nat.beq k 2) (some (rJ s)) <| none
def fF : List (Nat × Ent) := (33, .sum lV) :: eU
def kT (l : List Int) (c : List Int) : Done := ⟨[c = [32, 9]], .one (.str (U.trimB l)), [], []⟩
def xq : Vc.Sum := .pure [.str, .str] false fun x => kT x.1 x.2
def xu (l : List Int) (c : List Int) : Nat -> List V -> Nat -> Option Vc.Loop := fun f v k => cond (Nat.beq f 35 && Nat.beq k 1) (some (pq l)) <| cond (Nat.beq f 34 && Nat.beq k 1) (some (pX l)) <| none
def kU : List (Nat × Ent) := (21, .sum xq) :: fF
end Go.Proofs.YtlmkekoenfelcaaDoor
set_option maxRecDepth 100000
set_option linter.unusedVariables false
namespace Go.Proofs.YtlmkekoenfelcaaDoor
open Go.Vc
def dX (s : List Int) (t : List Int) : Prop := bif bif decide ((↑t.length : Int) = (0 : Int)) then true else t.beq s then (0 : Int) = aK s (t.getD (0 : Nat) (0 : Int)) /\ True else bif decide ((↑t.length : Int) = (1 : Int)) then (0 : Int) <= (0 : Int) /\ (0 : Int) < (↑t.length : Int) /\ aK s (t.getD (0 : Nat) (0 : Int)) = aK s (t.getD (0 : Nat) (0 : Int)) /\ True else bif
 decide ((↑t.length : Int) >= (↑s.length : Int)) then (-1 : Int) = aK s (t.getD (0 : Nat) (0 : Int)) /\ True else False
def pz (s : List Int) (t : List Int) : Prop := t.length = (1 : Nat) /\ bif decide (aK s (t.getD (0 : Nat) (0 : Int)) >= (0 : Int)) then (0 : Int) <= (0 : Int) /\ (0 : Int) <= aK s (t.getD (0 : Nat) (0 : Int)) /\ aK s (t.getD (0 : Nat) (0 : Int)) <= (↑s.length : Int) /\ (0 : Int) <= IntKind.i64.wrap ((aK s (t.getD (0 : Nat) (0 : Int))).add (↑t.length : Int)) /\ IntKind.i64.wrap ((aK s
 (t.getD (0 : Nat) (0 : Int))).add (↑t.length : Int)) <= (↑s.length : Int) /\ (↑s.length : Int) <= (↑s.length : Int) /\ List.take ((aK s (t.getD (0 : Nat) (0 : Int))).toNat.sub (0 : Nat)) (List.drop (0 : Nat) s) = U.rG s (t.getD (0 : Nat) (0 : Int)) /\ List.take ((↑s.length : Int).toNat.sub (IntKind.i64.wrap ((aK s (t.getD (0 : Nat) (0 : Int))).add (↑t.length : Int))).toNat) (List.drop
 (IntKind.i64.wrap ((aK s (t.getD (0 : Nat) (0 : Int))).add (↑t.length : Int))).toNat s) = U.IG s (t.getD (0 : Nat) (0 : Int)) /\ true = decide (aK s (t.getD (0 : Nat) (0 : Int)) >= (0 : Int)) /\ True else s = U.rG s (t.getD (0 : Nat) (0 : Int)) /\ [] = U.IG s (t.getD (0 : Nat) (0 : Int)) /\ false = decide (aK s (t.getD (0 : Nat) (0 : Int)) >= (0 : Int)) /\ True
def ig (s : List Int) (c : Int) : Prop := ∃ (x0 : Int), (U.aU s c (IntKind.i64.wrap ((↑s.length : Int).sub (1 : Int))) = U.aU s c x0 /\ U.bD s c x0) /\ ∀ (x : Int), U.bD s c x -> bif decide (x >= (0 : Int)) then (0 : Int) <= x /\ x <
 (↑s.length : Int) /\ bif decide (s.getD x.toNat (0 : Int) = c) then x = U.lastB s c /\ True else ∃ (y : Int), U.aU s c (IntKind.i64.wrap (x.sub (1 : Int))) = U.aU s c y /\ U.bD s c y /\ (y.add (1 : Int)).toNat < (x.add (1 : Int)).toNat else (-1 : Int) = U.lastB s c /\ True
def iR (s : List Int) : Prop := ∃ (x0 : List Bool × Int), (U.bY s [false, false, false, false, false, false, false, false, false, false, false, false, false, false, false, false, false, false, false, false, false, false, false, false, false, false, false, false, false, false, false, false, false, false, false, false, false, false, false, false, false,
 false, false, false, false, false, false, false, false, false, false, false, false, false, false, false, false, false, false, false, false, false, false, false, false, false, false, false, false, false, false, false, false, false, false, false, false, false, false, false, false, false, false, false, false, false, false, false, false, false, false, false, false, false, false, false, false, false,
 false, false, false, false, false, false, false, false, false, false, false, false, false, false, false, false, false, false, false, false, false, false, false, false, false, false, false, false, false, false, false, false, false, false, false, false, false, false, false, false, false, false, false, false, false, false, false, false, false, false, false, false, false, false, false, false, false,
 false, false, false, false, false, false, false, false, false, false, false, false, false, false, false, false, false, false, false, false, false, false, false, false, false, false, false, false, false, false, false, false, false, false, false, false, false, false, false, false, false, false, false, false, false, false, false, false, false, false, false, false, false, false, false, false, false,
 false, false, false, false, false, false, false, false, false, false, false, false, false, false, false, false, false, false, false, false, false, false, false, false, false, false, false, false, false, false, false, false, false, false, false, false, false, false, false, false, false, false, false, false] (0 : Int) = U.bY s x0.1 x0.2 /\ U.dU s x0.1 x0.2) /\
 ∀ (x : List Bool × Int), U.dU s x.1 x.2 -> bif decide (x.2 < (↑s.length : Int)) then (0 : Int) <= x.2 /\ x.2 < (↑s.length : Int) /\ bif decide (s.getD x.2.toNat (0 : Int) >= (128 : Int)) then x.1 = U.cO s /\ false = true /\ True else (0 : Int) <= s.getD x.2.toNat (0 : Int) /\ s.getD x.2.toNat (0 : Int) < (↑(256 : Nat) : Int) /\ (s.getD x.2.toNat (0 : Int)).toNat < (256 : Nat) /\ ∃ (y
 : List Bool × Int), U.bY s (x.1.set (s.getD x.2.toNat (0 : Int)).toNat true) (IntKind.i64.wrap (x.2.add (1 : Int))) = U.bY s y.1 y.2 /\ U.dU s y.1 y.2 /\ s.length.sub y.2.toNat < s.length.sub x.2.toNat else x.1 = U.cO s /\ true = true /\ True
def nJ (l : List Int) (c : List Int) : Prop := bif bif l.beq [] then true else c.beq [] then l = U.trimB l /\ True else (decide ((↑c.length : Int) = (1 : Int)) = true -> (0 : Int) <= (0 : Int)) /\ (decide ((↑c.length : Int) = (1 : Int)) = true -> (0 : Int) < (↑c.length : Int)) /\ bif bif decide ((↑c.length : Int) = (1 : Int)) then decide (c.getD (0 : Nat) (0 : Int) < (128 : Int)) else false
 then False else (∀ (c_1 : Int), List.Mem c_1 c -> (0 : Int) <= c_1 /\ c_1 < (128 : Int)) /\ ∃ (x0 : Nat), ((⟨⟨[U.sS l] ++ [U.sP 0 0] ++ U.n 20, [], [((0 : Nat), .obj [.arr (256 : Nat) (true || true) Ty.bool (U.cO c)])]⟩, (1 : Nat), []⟩ : St2) = U.dH l x0 /\ U.dM l x0) /\ ∀ (x : Nat), U.dM l x -> bif decide ((↑(List.take x l).length
 : Int) > (0 : Int)) then (0 : Int) <= IntKind.i64.wrap ((↑(List.take x l).length : Int).sub (1 : Int)) /\ IntKind.i64.wrap ((↑(List.take x l).length : Int).sub (1 : Int)) < (↑(List.take x l).length : Int) /\ (0 : Int) <= (List.take x l).getD (IntKind.i64.wrap ((↑(List.take x l).length : Int).sub (1 : Int))).toNat (0 : Int) /\ (List.take x l).getD (IntKind.i64.wrap ((↑(List.take x l).length : Int).sub (1
 : Int))).toNat (0 : Int) < (↑(256 : Nat) : Int) /\ ((List.take x l).getD (IntKind.i64.wrap ((↑(List.take x l).length : Int).sub (1 : Int))).toNat (0 : Int)).toNat < (256 : Nat) /\ bif !(U.cO [(32 : Int), (9 : Int)]).getD ((List.take x l).getD (IntKind.i64.wrap ((↑(List.take x l).length : Int).sub (1 : Int))).toNat (0 : Int)).toNat false then ∃ (x0 : Nat), ((⟨⟨[U.sS (List.take x l)] ++ [U.sP 0 0]
 ++ U.n 14, [], [((0 : Nat), .obj [.arr (256 : Nat) (true || true) Ty.bool (U.cO [(32 : Int), (9 : Int)])])]⟩, (1 : Nat), []⟩ : St2) = U.bn l x0 /\ U.aO l x0) /\ ∀ (x : Nat), U.aO l x -> bif decide ((↑(List.drop x (List.take (U.aB l) l)).length : Int) > (0 : Int)) then (0 : Int) <= (0 : Int) /\ (0 : Int) < (↑(List.drop x (List.take
 (U.aB l) l)).length : Int) /\ (0 : Int) <= (List.drop x (List.take (U.aB l) l)).getD (0 : Nat) (0 : Int) /\ (List.drop x (List.take (U.aB l) l)).getD (0 : Nat) (0 : Int) < (↑(256 : Nat) : Int) /\ ((List.drop x (List.take (U.aB l) l)).getD (0 : Nat) (0 : Int)).toNat < (256 : Nat) /\ bif !(U.cO [(32 : Int), (9 : Int)]).getD ((List.drop x (List.take (U.aB l) l)).getD (0 : Nat) (0 :
 Int)).toNat false then List.drop x (List.take (U.aB l) l) = U.trimB l /\ True else (0 : Int) <= (1 : Int) /\ (1 : Int) <= (↑(List.drop x (List.take (U.aB l) l)).length : Int) /\ (↑(List.drop x (List.take (U.aB l) l)).length : Int) <= (↑(List.drop x (List.take (U.aB l) l)).length : Int) /\ ∃ (y : Nat), (⟨⟨[U.sS (List.take ((↑(List.drop x (List.take (U.aB l) l)).length : Int).toNat.sub (1 :
 Nat)) (List.drop (1 : Nat) (List.drop x (List.take (U.aB l) l))))] ++ [U.sP 0 0] ++ U.n 14, [], [((0 : Nat), .obj [.arr (256 : Nat) (true || true) Ty.bool (U.cO [(32 : Int), (9 : Int)])])]⟩, (1 : Nat), []⟩ : St2) = U.bn l y /\ U.aO l y /\ l.length.sub y < l.length.sub x else List.drop x (List.take (U.aB l) l) = U.trimB l /\ True else (0 : Int) <=
 (0 : Int) /\ (0 : Int) <= IntKind.i64.wrap ((↑(List.take x l).length : Int).sub (1 : Int)) /\ IntKind.i64.wrap ((↑(List.take x l).length : Int).sub (1 : Int)) <= (↑(List.take x l).length : Int) /\ ∃ (y : Nat), (⟨⟨[U.sS (List.take ((IntKind.i64.wrap ((↑(List.take x l).length : Int).sub (1 : Int))).toNat.sub (0 : Nat)) (List.drop (0 : Nat) (List.take x l)))] ++ [U.sP 0 0] ++ U.n 20, [], [((0 : Nat), .obj
 [.arr (256 : Nat) (true || true) Ty.bool (U.cO [(32 : Int), (9 : Int)])])]⟩, (1 : Nat), []⟩ : St2) = U.dH l y /\ U.dM l y /\ y < x else ∃ (x0 : Nat), ((⟨⟨[U.sS (List.take x l)] ++ [U.sP 0 0] ++ U.n 14, [], [((0 : Nat), .obj [.arr (256 : Nat) (true || true) Ty.bool (U.cO [(32 : Int), (9 : Int)])])]⟩, (1 : Nat), []⟩ : St2) =
 U.bn l x0 /\ U.aO l x0) /\ ∀ (x : Nat), U.aO l x -> bif decide ((↑(List.drop x (List.take (U.aB l) l)).length : Int) > (0 : Int)) then (0 : Int) <= (0 : Int) /\ (0 : Int) < (↑(List.drop x (List.take (U.aB l) l)).length : Int) /\ (0 : Int) <= (List.drop x (List.take (U.aB l) l)).getD (0 : Nat) (0 : Int) /\ (List.drop x (List.take
 (U.aB l) l)).getD (0 : Nat) (0 : Int) < (↑(256 : Nat) : Int) /\ ((List.drop x (List.take (U.aB l) l)).getD (0 : Nat) (0 : Int)).toNat < (256 : Nat) /\ bif !(U.cO [(32 : Int), (9 : Int)]).getD ((List.drop x (List.take (U.aB l) l)).getD (0 : Nat) (0 : Int)).toNat false then List.drop x (List.take (U.aB l) l) = U.trimB l /\ True else (0 : Int) <= (1 : Int) /\ (1 : Int) <= (↑(List.drop x
 (List.take (U.aB l) l)).length : Int) /\ (↑(List.drop x (List.take (U.aB l) l)).length : Int) <= (↑(List.drop x (List.take (U.aB l) l)).length : Int) /\ ∃ (y : Nat), (⟨⟨[U.sS (List.take ((↑(List.drop x (List.take (U.aB l) l)).length : Int).toNat.sub (1 : Nat)) (List.drop (1 : Nat) (List.drop x (List.take (U.aB l) l))))] ++ [U.sP 0 0] ++ U.n 14, [], [((0 : Nat), .obj [.arr (256 : Nat)
 (true || true) Ty.bool (U.cO [(32 : Int), (9 : Int)])])]⟩, (1 : Nat), []⟩ : St2) = U.bn l y /\ U.aO l y /\ l.length.sub y < l.length.sub x else List.drop x (List.take (U.aB l) l) = U.trimB l /\ True
end Go.Proofs.YtlmkekoenfelcaaDoor
set_option linter.unusedSimpArgs false
set_option linter.unusedVariables false
set_option maxRecDepth 100000
namespace Go.Proofs.YtlmkekoenfelcaaDoor
open Go.Vc
open Go.Vc.T
theorem nK (s t : List Int) (h1 : t.length = 1) : dX s t := by
 unfold dX
 match t, h1 with
 | [c], _ =>
   simp only [cond_prop, J9, Pe, decide_eq_true_eq, decide_eq_false_iff_not, Iw]
   refine ⟨fun h => ⟨?_, trivial⟩, fun _ => ⟨fun _ => ⟨by omega, by simp, trivial, trivial⟩, fun h => (h (by rfl)).elim⟩⟩
   have h : [c] = s := by simpa using h
   subst h
   simp [aK]
theorem FK (s t : List Int) (hs : s.length <= maxLen) (h : t.length = 1) : pz s t := by
 unfold pz U.rG U.IG
 rw [maxLen_eq] at hs
 have hb := iP s (t.getD 0 0)
 refine ⟨h, ?_⟩
 by_cases hi : aK s (t.getD 0 0) >= 0
 ·rw [decide_eq_true hi, iK (by omega) (by omega)]
  refine ⟨by omega, by omega, by omega, by omega, by omega, by omega, rfl, ?_, rfl, trivial⟩
  rw [rH, h]; rfl
 ·rw [decide_eq_false hi]
  exact ⟨rfl, rfl, rfl, trivial⟩
theorem L8 (s : List Int) (x c : Int) : U.lastB (s ++ [x]) c = if x = c then (s.length : Int) else U.lastB s c := by
 unfold U.lastB
 rw [List.reverse_append, List.length_append]
 show cond (decide (aK (x :: s.reverse) c >= 0)) (((s.length + 1 : Nat) : Int) - 1 - aK (x :: s.reverse) c) (-1) = _
 rw [IK]
 have hb := iP s.reverse c
 by_cases hx : x = c
 ·rw [if_pos hx, if_pos hx]; show ((s.length + 1 : Nat) : Int) - 1 - 0 = _; omega
 ·rw [if_neg hx, if_neg hx]
  by_cases hn : aK s.reverse c = -1
  ·rw [if_pos hn, hn]; rfl
  ·rw [if_neg hn, decide_eq_true (by omega : aK s.reverse c + 1 >= 0), decide_eq_true (by omega : aK s.reverse c >= 0)]
   show ((s.length + 1 : Nat) : Int) - 1 - (aK s.reverse c + 1) = (s.length : Int) - 1 - aK s.reverse c; omega
theorem rW (s : List Int) (c : Int) (hs : s.length <= maxLen) : ig s c := by
 unfold ig
 rw [maxLen_eq] at hs
 rw [zI (by omega) (by omega)]
 refine ⟨(s.length : Int) - 1, ⟨rfl, by omega, by omega, by rw [wU (by omega)]⟩, ?_⟩
 rintro i ⟨i0, i1, hI⟩
 rw [cond_prop]
 refine ⟨fun hi => ?_, fun hi => ?_⟩
 ·have hi : i >= 0 := of_decide_eq_true hi
  rw [getD_at (by omega : i.toNat < s.length), zI (by omega) (by omega)]
  rw [take_at hi i1, L8] at hI
  refine ⟨hi, i1, ?_⟩
  rw [cond_prop]
  refine ⟨fun hx => ?_, fun hx => ?_⟩
  ·rw [if_pos (of_decide_eq_true hx), List.length_take] at hI
   exact ⟨by omega, trivial⟩
  ·rw [if_neg (of_decide_eq_false hx)] at hI
   refine ⟨i - 1, rfl, ⟨by omega, by omega, ?_⟩, by simp only [Pg]; omega⟩
   rw [Int.sub_add_cancel]; exact hI
 ·have hi : ¬ i >= 0 := of_decide_eq_false hi
  rw [show (i + 1).toNat = 0 by omega, List.take_zero] at hI
  exact ⟨hI, trivial⟩
theorem tZ (s : List Int) (hs : s.length <= maxLen) (hc : ∀ c ∈ s, 0 <= c /\ c < 128) : iR s := by
 unfold iR
 rw [maxLen_eq] at hs
 refine ⟨(List.replicate 256 false, 0), ⟨rfl, ⟨Int.le_refl 0, by show (0 : Int) <= _; omega⟩, rfl⟩, ?_⟩
 rintro ⟨a, i⟩ ⟨⟨i0, i1⟩, ha⟩
 dsimp only at i0 i1 ha ⊢
 rw [cond_prop]
 refine ⟨fun hi => ?_, fun hi => ?_⟩
 ·have hi : i < s.length := of_decide_eq_true hi
  have hx := hc (s[i.toNat]'(by omega)) (List.getElem_mem _)
  rw [getD_at (by omega : i.toNat < s.length)]
  refine ⟨i0, hi, ?_⟩
  rw [decide_eq_false (by omega : ¬ s[i.toNat] >= 128), iK (by omega) (by omega)]
  refine ⟨hx.1, by omega, by omega, (a.set s[i.toNat].toNat true, i + 1), rfl, ⟨⟨by show 0 <= i + 1; omega, by show i + 1 <= _; omega⟩, ?_⟩, by simp only [bZ]; omega⟩
  show a.set _ true = U.cO (s.take (i + 1).toNat)
  rw [take_at i0 hi]; unfold U.cO at *; rw [List.foldl_append, <- ha]; rfl
 ·have hi : ¬ i < s.length := of_decide_eq_false hi
  rw [wU (by omega)] at ha
  exact ⟨ha, rfl, trivial⟩
theorem Em (l c : List Int) (hv : Valid .str l) (hc : c = [32, 9]) : nJ l c := by
 subst hc
 have hl : l.length <= 9223372036854775807 := hv.2
 have hT := IJ l
 have hb : ∀ x ∈ l, 0 <= x /\ x <= 255 := fun x hx => hv.1 x hx
 unfold nJ
 rw [cond_prop]
 refine ⟨fun h0 => ?_, fun h0 => ?_⟩
 ·rw [J9, Ej, Ej] at h0
  simp only [Bool.or_eq_true, decide_eq_true_eq] at h0
  rcases h0 with rfl | h0
  ·exact ⟨rfl, trivial⟩
  ·cases h0
 show (decide (((([32, 9] : List Int).length : Nat) : Int) = 1) = true -> _) /\ _
 refine ⟨fun _ => by omega, fun _ => by decide, ?_⟩
 show (∀ c : Int, List.Mem c [32, 9] -> 0 <= c /\ c < 128) /\ _
 refine ⟨fun c hc => ?_, ?_⟩
 ·have hc : c ∈ [32, 9] := hc
  simp only [List.mem_cons, List.not_mem_nil, or_false] at hc
  rcases hc with rfl | rfl <;> omega
 have left : ∃ (x0 : Nat), ((⟨⟨[U.sS (List.take (U.aB l) l)] ++ [U.sP 0 0] ++ U.n 14, [], [(0, .obj [.arr 256 (true || true) Ty.bool (U.cO [32, 9])])]⟩, 1, []⟩ : St2) = U.bn l x0 /\ U.aO l x0) /\ ∀ (x : Nat), U.aO l x ->
  bif decide (((List.drop x (List.take (U.aB l) l)).length : Int) > 0) then (0 : Int) <= 0 /\ (0 : Int) < ((List.drop x (List.take (U.aB l) l)).length : Int) /\ 0 <= (List.drop x (List.take (U.aB l) l)).getD 0 0 /\ (List.drop x (List.take (U.aB l) l)).getD 0 0 < ((256 : Nat) : Int) /\ ((List.drop x (List.take (U.aB l) l)).getD 0 0).toNat < 256 /\
   bif !(U.cO [32, 9]).getD ((List.drop x (List.take (U.aB l) l)).getD 0 0).toNat false then List.drop x (List.take (U.aB l) l) = U.trimB l /\ True
   else (0 : Int) <= 1 /\ (1 : Int) <= ((List.drop x (List.take (U.aB l) l)).length : Int) /\ ((List.drop x (List.take (U.aB l) l)).length : Int) <= ((List.drop x (List.take (U.aB l) l)).length : Int) /\ ∃ (y : Nat), (⟨⟨[U.sS (List.take (((List.drop x (List.take (U.aB l) l)).length : Int).toNat.sub 1) (List.drop 1 (List.drop x (List.take (U.aB l) l))))] ++ [U.sP 0 0] ++ U.n 14, [], [(0, .obj [.arr 256 (true || true) Ty.bool (U.cO [32, 9])])]⟩, 1, []⟩ : St2) = U.bn l y /\ U.aO l y /\ l.length.sub y < l.length.sub x
  else List.drop x (List.take (U.aB l) l) = U.trimB l /\ True := by
  refine ⟨0, ⟨rfl, Nat.zero_le _, by rw [List.drop_zero, Nat.add_zero]⟩, ?_⟩
  rintro k ⟨k1, k2⟩
  have hml : (l.take (U.aB l)).length = U.aB l := by rw [List.length_take]; omega
  have fin : U.gV ((l.take (U.aB l)).drop k) = 0 -> List.drop k (List.take (U.aB l) l) = U.trimB l /\ True := fun hz => by
   refine ⟨?_, trivial⟩
   unfold U.trimB; rw [show k = U.gV (l.take (U.aB l)) by omega]
  have hle := II (l.take (U.aB l))
  rw [cond_prop]
  refine ⟨fun hn => ?_, fun hn => ?_⟩
  ·have hn : ((List.drop k (List.take (U.aB l) l)).length : Int) > 0 := of_decide_eq_true hn
   have hk : k < (l.take (U.aB l)).length := by rw [List.length_drop] at hn; omega
   have hd : (l.take (U.aB l)).drop k = (l.take (U.aB l))[k] :: (l.take (U.aB l)).drop (k + 1) := List.drop_eq_getElem_cons hk
   have hg : ((l.take (U.aB l)).drop k).getD 0 0 = (l.take (U.aB l))[k] := by rw [hd]; rfl
   have hbb := hb _ (List.mem_of_mem_take (List.getElem_mem hk))
   rw [hg]
   refine ⟨by omega, hn, hbb.1, by omega, by omega, ?_⟩
   rw [Kr hbb.1 (by omega)]
   cases hbl : U.blank (l.take (U.aB l))[k] with
   | false =>
     refine fin ?_
     rw [hd, U.gV, hbl]; rfl
   | true =>
     have hN : U.gV ((l.take (U.aB l)).drop k) = U.gV ((l.take (U.aB l)).drop (k + 1)) + 1 := by rw [hd, U.gV, hbl]; rfl
     refine ⟨by omega, by omega, by omega, k + 1, ?_, ⟨by omega, by omega⟩, by simp only [bZ]; rw [hml] at hk; omega⟩
     rw [rH, List.drop_drop]; rfl
  ·have hn : ¬ ((List.drop k (List.take (U.aB l) l)).length : Int) > 0 := of_decide_eq_false hn
   refine fin ?_
   rw [List.length_eq_zero_iff.1 (by omega : (List.drop k (List.take (U.aB l) l)).length = 0)]; rfl
 refine ⟨l.length, ⟨by unfold U.dH; rw [List.take_length]; rfl, Nat.le_refl _, hT, by rw [List.take_length]⟩, ?_⟩
 rintro n ⟨n1, n2, n3⟩
 have hnl : (l.take n).length = n := by rw [List.length_take]; omega
 rw [hnl, cond_prop]
 refine ⟨fun hn => ?_, fun hn => ?_⟩
 ·have hn : (n : Int) > 0 := of_decide_eq_true hn
  rw [zI (by omega) (by omega)]
  have hk : ((n : Int) - 1).toNat = n - 1 := by omega
  rw [hk]
  have hg : (l.take n).getD (n - 1) 0 = l[n - 1]'(by omega) := by rw [getD_at (by omega), List.getElem_take]
  have hbb := hb _ (List.getElem_mem (by omega : n - 1 < l.length))
  rw [hg]
  have ht : l.take n = l.take (n - 1) ++ [l[n - 1]'(by omega)] := by
   conv => lhs; rw [show n = (n - 1) + 1 by omega]
   rw [List.take_succ_eq_append_getElem (by omega)]
  have hs := L6 (l.take (n - 1)) (l[n - 1]'(by omega))
  rw [<- ht, n3, List.length_take, Nat.min_eq_left (by omega)] at hs
  refine ⟨by omega, by omega, hbb.1, by omega, by omega, ?_⟩
  rw [Kr hbb.1 (by omega)]
  cases hbl : U.blank (l[n - 1]'(by omega)) with
  | false =>
    rw [hbl] at hs
    have hs : U.aB l = n - 1 + 1 := hs
    have hx : l.take n = l.take (U.aB l) := by rw [hs]; congr 1; omega
    rw [hx]; exact left
  | true =>
    rw [hbl] at hs
    have hs : U.aB l = U.aB (l.take (n - 1)) := hs
    have hle := IJ (l.take (n - 1))
    rw [List.length_take] at hle
    refine ⟨by omega, by omega, by omega, n - 1, ?_, ⟨by omega, by omega, hs.symm⟩, by omega⟩
    rw [Nv, List.take_take, Nat.min_eq_left (by omega)]; rfl
 ·have hn : ¬ (n : Int) > 0 := of_decide_eq_false hn
  have hx : l.take n = l.take (U.aB l) := by rw [show n = 0 by omega, show U.aB l = 0 by omega]
  rw [hx]; exact left
end Go.Proofs.YtlmkekoenfelcaaDoor
set_option linter.unusedSimpArgs false
set_option maxRecDepth 100000
set_option linter.unusedVariables false
namespace Go.Proofs.YtlmkekoenfelcaaDoor
open Go.Vc
theorem yS : fO Tryd.prog gl 30 oN := QO (fn := Tryd.f30) Tryd.func30 (by kernel_rfl) rfl Tryd.ckFresh Tryd.ckUsed
theorem xG : dL oO := .cons yS xE
theorem Dp : fO Tryd.prog gl 22 sV := Qb (fn := Tryd.f22) Tryd.func22 (by kernel_rfl) rfl (FH Tryd.lays169 Tryd.Builder_Extra_169) (FI Tryd.lays169 Tryd.Builder_Extra_169)
theorem Bc : dL sW := .cons Dp xG
theorem lX : fO Tryd.prog gl 50 gX := Ko (fn := Tryd.f50) (by kernel_rfl) (by kernel_rfl) (by kernel_rfl) Tryd.stringslite_IndexByte
theorem gJ : dL bQ := .cons lX Bc
theorem oP (x : aT [.str, .str]) : jE Tryd.prog (fD bQ) (jd x.1 x.2) 46 (gU [.str, .str] x) [] (dw x.1 x.2) = dX x.1 x.2 := by kernel_rfl
theorem oQ : Pok 46 [.str, .str] (fun x => dw x.1 x.2) := by
 refine pk (L := fun x => jd x.1 x.2) (l := bQ) gJ (fun _ => rfl) ?_
 intro x hv hp
 rw [oP]
 exact nK x.1 x.2 (hp (List.length x.2 = 1) (by simp [dw]))
theorem oU : fO Tryd.prog gl 46 jc := oQ
theorem iY : dL dA := .cons oU gJ
theorem IL (x : aT [.str, .str]) : jE Tryd.prog (fD dA) (yR x.1 x.2) 25 (gU [.str, .str] x) [] (mQ x.1 x.2) = pz x.1 x.2 := by kernel_rfl
theorem IQ : Pok 25 [.str, .str] (fun x => mQ x.1 x.2) := by
 refine pk (L := fun x => yR x.1 x.2) (l := dA) iY (fun _ => rfl) ?_
 intro x hv hp
 rw [IL]
 exact FK x.1 x.2 hv.1.2 (hp (List.length x.2 = 1) (by simp [mQ]))
theorem IU : fO Tryd.prog gl 25 yQ := IQ
theorem xw : dL mV := .cons IU iY
theorem uf (x : aT [.str, .int .u8]) : jE Tryd.prog (fD mV) (kM x.1 x.2) 27 (gU [.str, .int .u8] x) [] (iQ x.1 x.2) = ig x.1 x.2 := by kernel_rfl
theorem ug : Pok 27 [.str, .int .u8] (fun x => iQ x.1 x.2) := by
 refine pk (L := fun x => kM x.1 x.2) (l := mV) xw (fun _ => rfl) ?_
 intro x hv hp
 rw [uf]
 exact rW x.1 x.2 hv.1.2
theorem uh : fO Tryd.prog gl 27 kL := ug
theorem kC : dL eU := .cons uh xw
theorem uY (x : aT [.str]) : jE Tryd.prog (fD eU) (lW x) 33 (gU [.str] x) [] (fE x) = iR x := by kernel_rfl
theorem uZ : Pok 33 [.str] (fun x => fE x) := by
 refine pk (L := fun x => lW x) (l := eU) kC (fun _ => rfl) ?_
 intro x hv hp
 rw [uY]
 exact tZ x hv.2 (hp (∀ c ∈ x, 0 <= c /\ c < 128) (by simp [fE]))
theorem vg : fO Tryd.prog gl 33 lV := uZ
theorem kN : dL fF := .cons vg kC
theorem FM (x : aT [.str, .str]) : jE Tryd.prog (fD fF) (xu x.1 x.2) 21 (gU [.str, .str] x) [] (kT x.1 x.2) = nJ x.1 x.2 := by kernel_rfl
theorem FN : Pok 21 [.str, .str] (fun x => kT x.1 x.2) := by
 refine pk (L := fun x => xu x.1 x.2) (l := fF) kN (fun _ => rfl) ?_
 intro x hv hp
 rw [FM]
 exact Em x.1 x.2 hv.1 (hp (x.2 = [32, 9]) (by simp [kT]))
theorem FP : fO Tryd.prog gl 21 xq := FN
theorem vk : dL kU := .cons FP kN
end Go.Proofs.YtlmkekoenfelcaaDoor
