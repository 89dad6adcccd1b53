/- What functions of this seat compute, in plain Lean. -/
import Derived.Test.YtlmkekoenfelcaaDoorCA
import Derived.Test.YtlmkekoenfelcaaDoorCVcG
import Derived.Test.YtlmkekoenfelcaaDoorCY
set_option linter.unusedVariables false
set_option linter.unusedSimpArgs false
set_option maxRecDepth 100000
namespace Go.Proofs.YtlmkekoenfelcaaDoor
open Go.Vc
namespace U
def lastB (s : List Int) (c : Int) : Int := cond (decide (aO s.reverse c >= 0)) (s.length - 1 - aO s.reverse c) (-1)
end U
namespace U
def aY (s : List Int) (c : Int) (i : Int) : St2 := ⟨⟨[sS s] ++ [sK .u8 c] ++ U.n 3 ++ [sI i] ++ U.n 13, [], []⟩, 0, []⟩
def bH (s : List Int) (c : Int)  (i : Int) : Prop := -1 <= i /\ i < s.length /\ lastB (s.take (i + 1).toNat) c = lastB s c
def cZ (s : List Int) (a : List Bool) (i : Int) : St2 := ⟨⟨[sS s] ++ U.n 1 ++ [sP 0 0] ++ U.n 1 ++ [sI i] ++ U.n 16, [], [(0, .obj [.arr 256 true .bool a])]⟩, 1, []⟩
def eu (s : List Int)  (a : List Bool) (i : Int) : Prop := at_ s i /\ a = dw (s.take i.toNat)
def dK (l : List Int) (n : Nat) : St2 := ⟨⟨[sS (l.take n)] ++ [sP 0 0] ++ U.n 20, [], [(0, .obj [.arr 256 true .bool (dw [32, 9])])]⟩, 1, []⟩
def dP (l : List Int)  (n : Nat) : Prop := n <= l.length /\ aA l <= n /\ aA (l.take n) = aA l
def bF (l : List Int) (k : Nat) : St2 := ⟨⟨[sS ((l.take (aA l)).drop k)] ++ [sP 0 0] ++ U.n 14, [], [(0, .obj [.arr 256 true .bool (dw [32, 9])])]⟩, 1, []⟩
def aT (l : List Int)  (k : Nat) : Prop := k <= aF (l.take (aA l)) /\ aF ((l.take (aA l)).drop k) + k = aF (l.take (aA l))
end U
def jw (s : List Int) (c : Int) : Vc.Loop := ⟨{ keep := [0, 1, 5] }, Int, fun x => U.aY s c x, fun x0 x => U.bH s c  x, fun x => (x + 1).toNat, fun p => ∀ x, p x, fun _ h => h⟩
def sN (s : List Int) : Vc.Loop := ⟨{ keep := [0, 2, 4] }, List Bool × Int, fun x => U.cZ s x.1 x.2, fun x0 x => U.eu s  x.1 x.2, fun x => s.length - x.2.toNat, fun p => ∀ x, p x, fun _ h => h⟩
def qj (l : List Int) : Vc.Loop := ⟨{ keep := [0, 1] }, Nat, fun x => U.dK l x, fun x0 x => U.dP l  x, fun x => x, fun p => ∀ x, p x, fun _ h => h⟩
def qH (l : List Int) : Vc.Loop := ⟨{ keep := [0, 1] }, Nat, fun x => U.bF l x, fun x0 x => U.aT l  x, fun x => l.length - x, fun p => ∀ x, p x, fun _ h => h⟩
def pK : Vc.Sum := .gen (ckF 42)
def pO : List (Nat × Ent) := (30, .sum pK) :: pJ
def uo : Vc.Sum := .gen (NI 42 5)
def uw : List (Nat × Ent) := (22, .sum uo) :: pO
def gX : Vc.Sum := .pure [.str, .int .u8] false fun x => NH x.1 x.2
def bW : List (Nat × Ent) := (50, .sum gX) :: uw
def dD (s : List Int) (t : List Int) : Done := ⟨[t.length = 1], .one (.int .i64 (aO s (t.getD 0 0))), [], []⟩
def je : Vc.Sum := .pure [.str, .str] false fun x => dD x.1 x.2
def jf (s : List Int) (t : List Int) : Nat -> List V -> Nat -> Option Vc.Loop := C9
def dF : List (Nat × Ent) := (46, .sum je) :: bW
def mZ (s : List Int) (t : List Int) : Done := ⟨[t.length = 1], .tup [one (.str (U.sJ s (t.getD 0 0))), one (.str (U.Jz s (t.getD 0 0))), one (.bool (decide (aO s (t.getD 0 0) >= 0)))], [], []⟩
def zD : Vc.Sum := .pure [.str, .str] false fun x => mZ x.1 x.2
def zF (s : List Int) (t : List Int) : Nat -> List V -> Nat -> Option Vc.Loop := C9
def ng : List (Nat × Ent) := (25, .sum zD) :: dF
def iQ (s : List Int) (c : Int) : Done := rI (U.lastB s c)
def kQ : Vc.Sum := .pure [.str, .int .u8] false fun x => iQ x.1 x.2
def kR (s : List Int) (c : Int) : Nat -> List V -> Nat -> Option Vc.Loop := fun f v k => cond (Nat.beq f 39 && Nat.beq k 2) (some (jw s c)) <| none
def fD : List (Nat × Ent) := (27, .sum kQ) :: ng
def fM (s : List Int) : Done := ⟨[∀ c ∈ s, 0 <= c /\ c < 128], .tup [⟨true, [.arr 256 true .bool (U.dw s)]⟩, one (.bool true)], [], []⟩
def l7 : Vc.Sum := .pure [.str] false fun x => fM x
def l9 (s : List Int) : Nat -> List V -> Nat -> Option Vc.Loop := fun f v k => cond (Nat.beq f 33 && Nat.beq k 2) (some (sN s)) <| none
def fO : List (Nat × Ent) := (33, .sum l7) :: fD
def kX (l : List Int) (c : List Int) : Done := ⟨[c = [32, 9]], .one (.str (U.trimB l)), [], []⟩
def xX : Vc.Sum := .pure [.str, .str] false fun x => kX x.1 x.2
def xY (l : List Int) (c : List Int) : Nat -> List V -> Nat -> Option Vc.Loop := fun f v k => cond (Nat.beq f 35 && Nat.beq k 1) (some (qj l)) <| cond (Nat.beq f 34 && Nat.beq k 1) (some (qH l)) <| none
def kY : List (Nat × Ent) := (21, .sum xX) :: fO
end Go.Proofs.YtlmkekoenfelcaaDoor
set_option maxRecDepth 100000
set_option linter.unusedVariables false
namespace Go.Proofs.YtlmkekoenfelcaaDoor
open Go.Vc
def eH (s : List Int) (t : List Int) : Prop := bif bif decide ((↑t.length : Int) = (0 : Int)) then true else t.beq s then (0 : Int) = aO s (t.getD (0 : Nat) (0 : Int)) /\ True else bif decide ((↑t.length : Int) = (1 : Int)) then (0 : Int) <= (0 : Int) /\ (0 : Int) < (↑t.length : Int) /\ aO s (t.getD (0 : Nat) (0 : Int)) = aO s (t.getD (0 : Nat) (0 : Int)) /\ True else bif
 decide ((↑t.length : Int) >= (↑s.length : Int)) then (-1 : Int) = aO s (t.getD (0 : Nat) (0 : Int)) /\ True else False
def ql (s : List Int) (t : List Int) : Prop := t.length = (1 : Nat) /\ bif decide (aO s (t.getD (0 : Nat) (0 : Int)) >= (0 : Int)) then (0 : Int) <= (0 : Int) /\ (0 : Int) <= aO s (t.getD (0 : Nat) (0 : Int)) /\ aO s (t.getD (0 : Nat) (0 : Int)) <= (↑s.length : Int) /\ (0 : Int) <= IntKind.i64.wrap ((aO s (t.getD (0 : Nat) (0 : Int))).add (↑t.length : Int)) /\ IntKind.i64.wrap ((aO s
 (t.getD (0 : Nat) (0 : Int))).add (↑t.length : Int)) <= (↑s.length : Int) /\ (↑s.length : Int) <= (↑s.length : Int) /\ List.take ((aO s (t.getD (0 : Nat) (0 : Int))).toNat.sub (0 : Nat)) (List.drop (0 : Nat) s) = U.sJ s (t.getD (0 : Nat) (0 : Int)) /\ List.take ((↑s.length : Int).toNat.sub (IntKind.i64.wrap ((aO s (t.getD (0 : Nat) (0 : Int))).add (↑t.length : Int))).toNat) (List.drop
 (IntKind.i64.wrap ((aO s (t.getD (0 : Nat) (0 : Int))).add (↑t.length : Int))).toNat s) = U.Jz s (t.getD (0 : Nat) (0 : Int)) /\ true = decide (aO s (t.getD (0 : Nat) (0 : Int)) >= (0 : Int)) /\ True else s = U.sJ s (t.getD (0 : Nat) (0 : Int)) /\ [] = U.Jz s (t.getD (0 : Nat) (0 : Int)) /\ false = decide (aO s (t.getD (0 : Nat) (0 : Int)) >= (0 : Int)) /\ True
def ig (s : List Int) (c : Int) : Prop := ∃ (x0 : Int), (U.aY s c (IntKind.i64.wrap ((↑s.length : Int).sub (1 : Int))) = U.aY s c x0 /\ U.bH s c x0) /\ ∀ (x : Int), U.bH s c x -> bif decide (x >= (0 : Int)) then (0 : Int) <= x /\ x <
 (↑s.length : Int) /\ bif decide (s.getD x.toNat (0 : Int) = c) then x = U.lastB s c /\ True else ∃ (y : Int), U.aY s c (IntKind.i64.wrap (x.sub (1 : Int))) = U.aY s c y /\ U.bH s c y /\ (y.add (1 : Int)).toNat < (x.add (1 : Int)).toNat else (-1 : Int) = U.lastB s c /\ True
def iR (s : List Int) : Prop := ∃ (x0 : List Bool × Int), (U.cZ s [false, false, false, false, false, false, false, false, false, false, false, false, false, false, false, false, false, false, false, false, false, false, false, false, false, false, false, false, false, false, false, false, false, false, false, false, false, false, false, false, false,
 false, false, false, false, false, false, false, false, false, false, false, false, false, false, false, false, false, false, false, false, false, false, false, false, false, false, false, false, false, false, false, false, false, false, false, false, false, false, false, false, false, false, false, false, false, false, false, false, false, false, false, false, false, false, false, false, false,
 false, false, false, false, false, false, false, false, false, false, false, false, false, false, false, false, false, false, false, false, false, false, false, false, false, false, false, false, false, false, false, false, false, false, false, false, false, false, false, false, false, false, false, false, false, false, false, false, false, false, false, false, false, false, false, false, false,
 false, false, false, false, false, false, false, false, false, false, false, false, false, false, false, false, false, false, false, false, false, false, false, false, false, false, false, false, false, false, false, false, false, false, false, false, false, false, false, false, false, false, false, false, false, false, false, false, false, false, false, false, false, false, false, false, false,
 false, false, false, false, false, false, false, false, false, false, false, false, false, false, false, false, false, false, false, false, false, false, false, false, false, false, false, false, false, false, false, false, false, false, false, false, false, false, false, false, false, false, false, false] (0 : Int) = U.cZ s x0.1 x0.2 /\ U.eu s x0.1 x0.2) /\
 ∀ (x : List Bool × Int), U.eu s x.1 x.2 -> bif decide (x.2 < (↑s.length : Int)) then (0 : Int) <= x.2 /\ x.2 < (↑s.length : Int) /\ bif decide (s.getD x.2.toNat (0 : Int) >= (128 : Int)) then x.1 = U.dw s /\ false = true /\ True else (0 : Int) <= s.getD x.2.toNat (0 : Int) /\ s.getD x.2.toNat (0 : Int) < (↑(256 : Nat) : Int) /\ (s.getD x.2.toNat (0 : Int)).toNat < (256 : Nat) /\ ∃ (y
 : List Bool × Int), U.cZ s (x.1.set (s.getD x.2.toNat (0 : Int)).toNat true) (IntKind.i64.wrap (x.2.add (1 : Int))) = U.cZ s y.1 y.2 /\ U.eu s y.1 y.2 /\ s.length.sub y.2.toNat < s.length.sub x.2.toNat else x.1 = U.dw s /\ true = true /\ True
def og (l : List Int) (c : List Int) : Prop := bif bif l.beq [] then true else c.beq [] then l = U.trimB l /\ True else (decide ((↑c.length : Int) = (1 : Int)) = true -> (0 : Int) <= (0 : Int)) /\ (decide ((↑c.length : Int) = (1 : Int)) = true -> (0 : Int) < (↑c.length : Int)) /\ bif bif decide ((↑c.length : Int) = (1 : Int)) then decide (c.getD (0 : Nat) (0 : Int) < (128 : Int)) else false
 then False else (∀ (c_1 : Int), List.Mem c_1 c -> (0 : Int) <= c_1 /\ c_1 < (128 : Int)) /\ ∃ (x0 : Nat), ((⟨⟨[U.sS l] ++ [U.sP 0 0] ++ U.n 20, [], [((0 : Nat), .obj [.arr (256 : Nat) (true || true) Ty.bool (U.dw c)])]⟩, (1 : Nat), []⟩ : St2) = U.dK l x0 /\ U.dP l x0) /\ ∀ (x : Nat), U.dP l x -> bif decide ((↑(List.take x l).length
 : Int) > (0 : Int)) then (0 : Int) <= IntKind.i64.wrap ((↑(List.take x l).length : Int).sub (1 : Int)) /\ IntKind.i64.wrap ((↑(List.take x l).length : Int).sub (1 : Int)) < (↑(List.take x l).length : Int) /\ (0 : Int) <= (List.take x l).getD (IntKind.i64.wrap ((↑(List.take x l).length : Int).sub (1 : Int))).toNat (0 : Int) /\ (List.take x l).getD (IntKind.i64.wrap ((↑(List.take x l).length : Int).sub (1
 : Int))).toNat (0 : Int) < (↑(256 : Nat) : Int) /\ ((List.take x l).getD (IntKind.i64.wrap ((↑(List.take x l).length : Int).sub (1 : Int))).toNat (0 : Int)).toNat < (256 : Nat) /\ bif !(U.dw [(32 : Int), (9 : Int)]).getD ((List.take x l).getD (IntKind.i64.wrap ((↑(List.take x l).length : Int).sub (1 : Int))).toNat (0 : Int)).toNat false then ∃ (x0 : Nat), ((⟨⟨[U.sS (List.take x l)] ++ [U.sP 0 0]
 ++ U.n 14, [], [((0 : Nat), .obj [.arr (256 : Nat) (true || true) Ty.bool (U.dw [(32 : Int), (9 : Int)])])]⟩, (1 : Nat), []⟩ : St2) = U.bF l x0 /\ U.aT l x0) /\ ∀ (x : Nat), U.aT l x -> bif decide ((↑(List.drop x (List.take (U.aA l) l)).length : Int) > (0 : Int)) then (0 : Int) <= (0 : Int) /\ (0 : Int) < (↑(List.drop x (List.take
 (U.aA l) l)).length : Int) /\ (0 : Int) <= (List.drop x (List.take (U.aA l) l)).getD (0 : Nat) (0 : Int) /\ (List.drop x (List.take (U.aA l) l)).getD (0 : Nat) (0 : Int) < (↑(256 : Nat) : Int) /\ ((List.drop x (List.take (U.aA l) l)).getD (0 : Nat) (0 : Int)).toNat < (256 : Nat) /\ bif !(U.dw [(32 : Int), (9 : Int)]).getD ((List.drop x (List.take (U.aA l) l)).getD (0 : Nat) (0 :
 Int)).toNat false then List.drop x (List.take (U.aA l) l) = U.trimB l /\ True else (0 : Int) <= (1 : Int) /\ (1 : Int) <= (↑(List.drop x (List.take (U.aA l) l)).length : Int) /\ (↑(List.drop x (List.take (U.aA l) l)).length : Int) <= (↑(List.drop x (List.take (U.aA l) l)).length : Int) /\ ∃ (y : Nat), (⟨⟨[U.sS (List.take ((↑(List.drop x (List.take (U.aA l) l)).length : Int).toNat.sub (1 :
 Nat)) (List.drop (1 : Nat) (List.drop x (List.take (U.aA l) l))))] ++ [U.sP 0 0] ++ U.n 14, [], [((0 : Nat), .obj [.arr (256 : Nat) (true || true) Ty.bool (U.dw [(32 : Int), (9 : Int)])])]⟩, (1 : Nat), []⟩ : St2) = U.bF l y /\ U.aT l y /\ l.length.sub y < l.length.sub x else List.drop x (List.take (U.aA l) l) = U.trimB l /\ True else (0 : Int) <=
 (0 : Int) /\ (0 : Int) <= IntKind.i64.wrap ((↑(List.take x l).length : Int).sub (1 : Int)) /\ IntKind.i64.wrap ((↑(List.take x l).length : Int).sub (1 : Int)) <= (↑(List.take x l).length : Int) /\ ∃ (y : Nat), (⟨⟨[U.sS (List.take ((IntKind.i64.wrap ((↑(List.take x l).length : Int).sub (1 : Int))).toNat.sub (0 : Nat)) (List.drop (0 : Nat) (List.take x l)))] ++ [U.sP 0 0] ++ U.n 20, [], [((0 : Nat), .obj
 [.arr (256 : Nat) (true || true) Ty.bool (U.dw [(32 : Int), (9 : Int)])])]⟩, (1 : Nat), []⟩ : St2) = U.dK l y /\ U.dP l y /\ y < x else ∃ (x0 : Nat), ((⟨⟨[U.sS (List.take x l)] ++ [U.sP 0 0] ++ U.n 14, [], [((0 : Nat), .obj [.arr (256 : Nat) (true || true) Ty.bool (U.dw [(32 : Int), (9 : Int)])])]⟩, (1 : Nat), []⟩ : St2) =
 U.bF l x0 /\ U.aT l x0) /\ ∀ (x : Nat), U.aT l x -> bif decide ((↑(List.drop x (List.take (U.aA l) l)).length : Int) > (0 : Int)) then (0 : Int) <= (0 : Int) /\ (0 : Int) < (↑(List.drop x (List.take (U.aA l) l)).length : Int) /\ (0 : Int) <= (List.drop x (List.take (U.aA l) l)).getD (0 : Nat) (0 : Int) /\ (List.drop x (List.take
 (U.aA l) l)).getD (0 : Nat) (0 : Int) < (↑(256 : Nat) : Int) /\ ((List.drop x (List.take (U.aA l) l)).getD (0 : Nat) (0 : Int)).toNat < (256 : Nat) /\ bif !(U.dw [(32 : Int), (9 : Int)]).getD ((List.drop x (List.take (U.aA l) l)).getD (0 : Nat) (0 : Int)).toNat false then List.drop x (List.take (U.aA l) l) = U.trimB l /\ True else (0 : Int) <= (1 : Int) /\ (1 : Int) <= (↑(List.drop x
 (List.take (U.aA l) l)).length : Int) /\ (↑(List.drop x (List.take (U.aA l) l)).length : Int) <= (↑(List.drop x (List.take (U.aA l) l)).length : Int) /\ ∃ (y : Nat), (⟨⟨[U.sS (List.take ((↑(List.drop x (List.take (U.aA l) l)).length : Int).toNat.sub (1 : Nat)) (List.drop (1 : Nat) (List.drop x (List.take (U.aA l) l))))] ++ [U.sP 0 0] ++ U.n 14, [], [((0 : Nat), .obj [.arr (256 : Nat)
 (true || true) Ty.bool (U.dw [(32 : Int), (9 : Int)])])]⟩, (1 : Nat), []⟩ : St2) = U.bF l y /\ U.aT l y /\ l.length.sub y < l.length.sub x else List.drop x (List.take (U.aA l) l) = U.trimB l /\ True
end Go.Proofs.YtlmkekoenfelcaaDoor
set_option linter.unusedSimpArgs false
set_option linter.unusedVariables false
set_option maxRecDepth 100000
namespace Go.Proofs.YtlmkekoenfelcaaDoor
open Go.Vc
open Go.Vc.T
theorem oh (s t : List Int) (h1 : t.length = 1) : eH s t := by
 unfold eH
 match t, h1 with
 | [c], _ =>
   simp only [cond_prop, Aq, Qv, decide_eq_true_eq, decide_eq_false_iff_not, Js]
   refine ⟨fun h => ⟨?_, trivial⟩, fun _ => ⟨fun _ => ⟨by omega, by simp, trivial, trivial⟩, fun h => (h (by rfl)).elim⟩⟩
   have h : [c] = s := by simpa using h
   subst h
   simp [aO]
theorem GR (s t : List Int) (hs : s.length <= maxLen) (h : t.length = 1) : ql s t := by
 unfold ql U.sJ U.Jz
 rw [maxLen_eq] at hs
 have hb := iP s (t.getD 0 0)
 refine ⟨h, ?_⟩
 by_cases hi : aO s (t.getD 0 0) >= 0
 ·rw [decide_eq_true hi, fJ (by omega) (by omega)]
  refine ⟨by omega, by omega, by omega, by omega, by omega, by omega, rfl, ?_, rfl, trivial⟩
  rw [nY, h]; rfl
 ·rw [decide_eq_false hi]
  exact ⟨rfl, rfl, rfl, trivial⟩
theorem NP (s : List Int) (x c : Int) : U.lastB (s ++ [x]) c = if x = c then (s.length : Int) else U.lastB s c := by
 unfold U.lastB
 rw [List.reverse_append, List.length_append]
 show cond (decide (aO (x :: s.reverse) c >= 0)) (((s.length + 1 : Nat) : Int) - 1 - aO (x :: s.reverse) c) (-1) = _
 rw [JA]
 have hb := iP s.reverse c
 by_cases hx : x = c
 ·rw [if_pos hx, if_pos hx]; show ((s.length + 1 : Nat) : Int) - 1 - 0 = _; omega
 ·rw [if_neg hx, if_neg hx]
  by_cases hn : aO s.reverse c = -1
  ·rw [if_pos hn, hn]; rfl
  ·rw [if_neg hn, decide_eq_true (by omega : aO s.reverse c + 1 >= 0), decide_eq_true (by omega : aO s.reverse c >= 0)]
   show ((s.length + 1 : Nat) : Int) - 1 - (aO s.reverse c + 1) = (s.length : Int) - 1 - aO s.reverse c; omega
theorem tu (s : List Int) (c : Int) (hs : s.length <= maxLen) : ig s c := by
 unfold ig
 rw [maxLen_eq] at hs
 rw [xK (by omega) (by omega)]
 refine ⟨(s.length : Int) - 1, ⟨rfl, by omega, by omega, by rw [sH (by omega)]⟩, ?_⟩
 rintro i ⟨i0, i1, hI⟩
 rw [cond_prop]
 refine ⟨fun hi => ?_, fun hi => ?_⟩
 ·have hi : i >= 0 := of_decide_eq_true hi
  rw [getD_at (by omega : i.toNat < s.length), xK (by omega) (by omega)]
  rw [take_at hi i1, NP] at hI
  refine ⟨hi, i1, ?_⟩
  rw [cond_prop]
  refine ⟨fun hx => ?_, fun hx => ?_⟩
  ·rw [if_pos (of_decide_eq_true hx), List.length_take] at hI
   exact ⟨by omega, trivial⟩
  ·rw [if_neg (of_decide_eq_false hx)] at hI
   refine ⟨i - 1, rfl, ⟨by omega, by omega, ?_⟩, by simp only [Qw]; omega⟩
   rw [Int.sub_add_cancel]; exact hI
 ·have hi : ¬ i >= 0 := of_decide_eq_false hi
  rw [show (i + 1).toNat = 0 by omega, List.take_zero] at hI
  exact ⟨hI, trivial⟩
theorem uP (s : List Int) (hs : s.length <= maxLen) (hc : ∀ c ∈ s, 0 <= c /\ c < 128) : iR s := by
 unfold iR
 rw [maxLen_eq] at hs
 refine ⟨(List.replicate 256 false, 0), ⟨rfl, ⟨Int.le_refl 0, by show (0 : Int) <= _; omega⟩, rfl⟩, ?_⟩
 rintro ⟨a, i⟩ ⟨⟨i0, i1⟩, ha⟩
 dsimp only at i0 i1 ha ⊢
 rw [cond_prop]
 refine ⟨fun hi => ?_, fun hi => ?_⟩
 ·have hi : i < s.length := of_decide_eq_true hi
  have hx := hc (s[i.toNat]'(by omega)) (List.getElem_mem _)
  rw [getD_at (by omega : i.toNat < s.length)]
  refine ⟨i0, hi, ?_⟩
  rw [decide_eq_false (by omega : ¬ s[i.toNat] >= 128), fJ (by omega) (by omega)]
  refine ⟨hx.1, by omega, by omega, (a.set s[i.toNat].toNat true, i + 1), rfl, ⟨⟨by show 0 <= i + 1; omega, by show i + 1 <= _; omega⟩, ?_⟩, by simp only [bU]; omega⟩
  show a.set _ true = U.dw (s.take (i + 1).toNat)
  rw [take_at i0 hi]; unfold U.dw at *; rw [List.foldl_append, <- ha]; rfl
 ·have hi : ¬ i < s.length := of_decide_eq_false hi
  rw [sH (by omega)] at ha
  exact ⟨ha, rfl, trivial⟩
theorem Fe (l c : List Int) (hv : Valid .str l) (hc : c = [32, 9]) : og l c := by
 subst hc
 have hl : l.length <= 9223372036854775807 := hv.2
 have hT := Ci l
 have hb : ∀ x ∈ l, 0 <= x /\ x <= 255 := fun x hx => hv.1 x hx
 unfold og
 rw [cond_prop]
 refine ⟨fun h0 => ?_, fun h0 => ?_⟩
 ·rw [Aq, Fb, Fb] at h0
  simp only [Bool.or_eq_true, decide_eq_true_eq] at h0
  rcases h0 with rfl | h0
  ·exact ⟨rfl, trivial⟩
  ·cases h0
 show (decide (((([32, 9] : List Int).length : Nat) : Int) = 1) = true -> _) /\ _
 refine ⟨fun _ => by omega, fun _ => by decide, ?_⟩
 show (∀ c : Int, List.Mem c [32, 9] -> 0 <= c /\ c < 128) /\ _
 refine ⟨fun c hc => ?_, ?_⟩
 ·have hc : c ∈ [32, 9] := hc
  simp only [List.mem_cons, List.not_mem_nil, or_false] at hc
  rcases hc with rfl | rfl <;> omega
 have left : ∃ (x0 : Nat), ((⟨⟨[U.sS (List.take (U.aA l) l)] ++ [U.sP 0 0] ++ U.n 14, [], [(0, .obj [.arr 256 (true || true) Ty.bool (U.dw [32, 9])])]⟩, 1, []⟩ : St2) = U.bF l x0 /\ U.aT l x0) /\ ∀ (x : Nat), U.aT l x ->
  bif decide (((List.drop x (List.take (U.aA l) l)).length : Int) > 0) then (0 : Int) <= 0 /\ (0 : Int) < ((List.drop x (List.take (U.aA l) l)).length : Int) /\ 0 <= (List.drop x (List.take (U.aA l) l)).getD 0 0 /\ (List.drop x (List.take (U.aA l) l)).getD 0 0 < ((256 : Nat) : Int) /\ ((List.drop x (List.take (U.aA l) l)).getD 0 0).toNat < 256 /\
   bif !(U.dw [32, 9]).getD ((List.drop x (List.take (U.aA l) l)).getD 0 0).toNat false then List.drop x (List.take (U.aA l) l) = U.trimB l /\ True
   else (0 : Int) <= 1 /\ (1 : Int) <= ((List.drop x (List.take (U.aA l) l)).length : Int) /\ ((List.drop x (List.take (U.aA l) l)).length : Int) <= ((List.drop x (List.take (U.aA l) l)).length : Int) /\ ∃ (y : Nat), (⟨⟨[U.sS (List.take (((List.drop x (List.take (U.aA l) l)).length : Int).toNat.sub 1) (List.drop 1 (List.drop x (List.take (U.aA l) l))))] ++ [U.sP 0 0] ++ U.n 14, [], [(0, .obj [.arr 256 (true || true) Ty.bool (U.dw [32, 9])])]⟩, 1, []⟩ : St2) = U.bF l y /\ U.aT l y /\ l.length.sub y < l.length.sub x
  else List.drop x (List.take (U.aA l) l) = U.trimB l /\ True := by
  refine ⟨0, ⟨rfl, Nat.zero_le _, by rw [List.drop_zero, Nat.add_zero]⟩, ?_⟩
  rintro k ⟨k1, k2⟩
  have hml : (l.take (U.aA l)).length = U.aA l := by rw [List.length_take]; omega
  have fin : U.aF ((l.take (U.aA l)).drop k) = 0 -> List.drop k (List.take (U.aA l) l) = U.trimB l /\ True := fun hz => by
   refine ⟨?_, trivial⟩
   unfold U.trimB; rw [show k = U.aF (l.take (U.aA l)) by omega]
  have hle := nZ (l.take (U.aA l))
  rw [cond_prop]
  refine ⟨fun hn => ?_, fun hn => ?_⟩
  ·have hn : ((List.drop k (List.take (U.aA l) l)).length : Int) > 0 := of_decide_eq_true hn
   have hk : k < (l.take (U.aA l)).length := by rw [List.length_drop] at hn; omega
   have hd : (l.take (U.aA l)).drop k = (l.take (U.aA l))[k] :: (l.take (U.aA l)).drop (k + 1) := List.drop_eq_getElem_cons hk
   have hg : ((l.take (U.aA l)).drop k).getD 0 0 = (l.take (U.aA l))[k] := by rw [hd]; rfl
   have hbb := hb _ (List.mem_of_mem_take (List.getElem_mem hk))
   rw [hg]
   refine ⟨by omega, hn, hbb.1, by omega, by omega, ?_⟩
   rw [LQ hbb.1 (by omega)]
   cases hbl : U.blank (l.take (U.aA l))[k] with
   | false =>
     refine fin ?_
     rw [hd, U.aF, hbl]; rfl
   | true =>
     have hN : U.aF ((l.take (U.aA l)).drop k) = U.aF ((l.take (U.aA l)).drop (k + 1)) + 1 := by rw [hd, U.aF, hbl]; rfl
     refine ⟨by omega, by omega, by omega, k + 1, ?_, ⟨by omega, by omega⟩, by simp only [bU]; rw [hml] at hk; omega⟩
     rw [nY, List.drop_drop]; rfl
  ·have hn : ¬ ((List.drop k (List.take (U.aA l) l)).length : Int) > 0 := of_decide_eq_false hn
   refine fin ?_
   rw [List.length_eq_zero_iff.1 (by omega : (List.drop k (List.take (U.aA l) l)).length = 0)]; rfl
 refine ⟨l.length, ⟨by unfold U.dK; rw [List.take_length]; rfl, Nat.le_refl _, hT, by rw [List.take_length]⟩, ?_⟩
 rintro n ⟨n1, n2, n3⟩
 have hnl : (l.take n).length = n := by rw [List.length_take]; omega
 rw [hnl, cond_prop]
 refine ⟨fun hn => ?_, fun hn => ?_⟩
 ·have hn : (n : Int) > 0 := of_decide_eq_true hn
  rw [xK (by omega) (by omega)]
  have hk : ((n : Int) - 1).toNat = n - 1 := by omega
  rw [hk]
  have hg : (l.take n).getD (n - 1) 0 = l[n - 1]'(by omega) := by rw [getD_at (by omega), List.getElem_take]
  have hbb := hb _ (List.getElem_mem (by omega : n - 1 < l.length))
  rw [hg]
  have ht : l.take n = l.take (n - 1) ++ [l[n - 1]'(by omega)] := by
   conv => lhs; rw [show n = (n - 1) + 1 by omega]
   rw [List.take_succ_eq_append_getElem (by omega)]
  have hs := Ee (l.take (n - 1)) (l[n - 1]'(by omega))
  rw [<- ht, n3, List.length_take, Nat.min_eq_left (by omega)] at hs
  refine ⟨by omega, by omega, hbb.1, by omega, by omega, ?_⟩
  rw [LQ hbb.1 (by omega)]
  cases hbl : U.blank (l[n - 1]'(by omega)) with
  | false =>
    rw [hbl] at hs
    have hs : U.aA l = n - 1 + 1 := hs
    have hx : l.take n = l.take (U.aA l) := by rw [hs]; congr 1; omega
    rw [hx]; exact left
  | true =>
    rw [hbl] at hs
    have hs : U.aA l = U.aA (l.take (n - 1)) := hs
    have hle := Ci (l.take (n - 1))
    rw [List.length_take] at hle
    refine ⟨by omega, by omega, by omega, n - 1, ?_, ⟨by omega, by omega, hs.symm⟩, by omega⟩
    rw [OG, List.take_take, Nat.min_eq_left (by omega)]; rfl
 ·have hn : ¬ (n : Int) > 0 := of_decide_eq_false hn
  have hx : l.take n = l.take (U.aA l) := by rw [show n = 0 by omega, show U.aA l = 0 by omega]
  rw [hx]; exact left
end Go.Proofs.YtlmkekoenfelcaaDoor
set_option linter.unusedSimpArgs false
set_option maxRecDepth 100000
set_option linter.unusedVariables false
namespace Go.Proofs.YtlmkekoenfelcaaDoor
open Go.Vc
theorem zG : dZ Tryd.prog gl 30 pK := SL (fn := Tryd.f30) Tryd.func30 (by kernel_rfl) rfl Tryd.ckFresh Tryd.ckUsed
theorem yw : dh pO := .cons zG yu
theorem Ef : dZ Tryd.prog gl 22 uo := Rk (fn := Tryd.f22) Tryd.func22 (by kernel_rfl) rfl (GL Tryd.lays169 Tryd.Builder_Extra_169) (GN Tryd.lays169 Tryd.Builder_Extra_169)
theorem Cj : dh uw := .cons Ef yw
theorem mg : dZ Tryd.prog gl 50 gX := LM (fn := Tryd.f50) (by kernel_rfl) (by kernel_rfl) (by kernel_rfl) Tryd.stringslite_IndexByte
theorem gV : dh bW := .cons mg Cj
theorem pR (x : aU [.str, .str]) : iL Tryd.prog (dS bW) (jf x.1 x.2) 46 (fC [.str, .str] x) [] (dD x.1 x.2) = eH x.1 x.2 := by kernel_rfl
theorem pU : Pok 46 [.str, .str] (fun x => dD x.1 x.2) := by
 refine pk (L := fun x => jf x.1 x.2) (l := bW) gV (fun _ => rfl) ?_
 intro x hv hp
 rw [pR]
 exact oh x.1 x.2 (hp (List.length x.2 = 1) (by simp [dD]))
theorem pV : dZ Tryd.prog gl 46 je := pU
theorem iY : dh dF := .cons pV gV
theorem JD (x : aU [.str, .str]) : iL Tryd.prog (dS dF) (zF x.1 x.2) 25 (fC [.str, .str] x) [] (mZ x.1 x.2) = ql x.1 x.2 := by kernel_rfl
theorem JE : Pok 25 [.str, .str] (fun x => mZ x.1 x.2) := by
 refine pk (L := fun x => zF x.1 x.2) (l := dF) iY (fun _ => rfl) ?_
 intro x hv hp
 rw [JD]
 exact GR x.1 x.2 hv.1.2 (hp (List.length x.2 = 1) (by simp [mZ]))
theorem JF : dZ Tryd.prog gl 25 zD := JE
theorem xZ : dh ng := .cons JF iY
theorem uQ (x : aU [.str, .int .u8]) : iL Tryd.prog (dS ng) (kR x.1 x.2) 27 (fC [.str, .int .u8] x) [] (iQ x.1 x.2) = ig x.1 x.2 := by kernel_rfl
theorem uS : Pok 27 [.str, .int .u8] (fun x => iQ x.1 x.2) := by
 refine pk (L := fun x => kR x.1 x.2) (l := ng) xZ (fun _ => rfl) ?_
 intro x hv hp
 rw [uQ]
 exact tu x.1 x.2 hv.1.2
theorem uT : dZ Tryd.prog gl 27 kQ := uS
theorem kH : dh fD := .cons uT xZ
theorem vV (x : aU [.str]) : iL Tryd.prog (dS fD) (l9 x) 33 (fC [.str] x) [] (fM x) = iR x := by kernel_rfl
theorem vW : Pok 33 [.str] (fun x => fM x) := by
 refine pk (L := fun x => l9 x) (l := fD) kH (fun _ => rfl) ?_
 intro x hv hp
 rw [vV]
 exact uP x hv.2 (hp (∀ c ∈ x, 0 <= c /\ c < 128) (by simp [fM]))
theorem vX : dZ Tryd.prog gl 33 l7 := vW
theorem kS : dh fO := .cons vX kH
theorem GU (x : aU [.str, .str]) : iL Tryd.prog (dS fO) (xY x.1 x.2) 21 (fC [.str, .str] x) [] (kX x.1 x.2) = og x.1 x.2 := by kernel_rfl
theorem GV : Pok 21 [.str, .str] (fun x => kX x.1 x.2) := by
 refine pk (L := fun x => xY x.1 x.2) (l := fO) kS (fun _ => rfl) ?_
 intro x hv hp
 rw [GU]
 exact Fe x.1 x.2 hv.1 (hp (x.2 = [32, 9]) (by simp [kX]))
theorem GX : dZ Tryd.prog gl 21 xX := GV
theorem vY : dh kY := .cons GX kS
end Go.Proofs.YtlmkekoenfelcaaDoor
