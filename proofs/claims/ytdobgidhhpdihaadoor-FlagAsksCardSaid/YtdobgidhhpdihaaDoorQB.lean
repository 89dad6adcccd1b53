/- What functions of this seat compute, in plain Lean. -/
import Derived.Test.YtdobgidhhpdihaaDoorQA
set_option linter.unusedVariables false
set_option linter.unusedSimpArgs false
set_option maxRecDepth 100000
namespace Go.Proofs.YtdobgidhhpdihaaDoor
open Go.Vc
abbrev je : Ty := .slice .str
namespace U
def jy : List (List Int) := [[92, 65, 110, 115, 119, 101, 114, 101, 100], [92, 70, 108, 97, 103, 103, 101, 100], [92, 68, 101, 108, 101, 116, 101, 100], [92, 83, 101, 101, 110], [92, 68, 114, 97, 102, 116]]
def oW : List Int := [2, 4, 8, 1, 16]
def eG (f : Int) : Bool := decide (0 <= f) && decide (f <= 31)
def lF (f b : Int) : Bool := !(decide (T.jT .i64 f b = 0))
def dI (f : Int) : List (List Int × Int) -> List (List Int)
 | [] => []
 | x :: r => cond (lF f x.2) (x.1 :: dI f r) (dI f r)
def sQ (f : Int) : List Int := 40 :: (joinL [32] (dI f ay) ++ [41])
def uG (s : List Int) : List (List Int × Int) -> Int × Int
 | [] => (0, 3)
 | x :: r => cond (decide (x.1.map aK = s.map aK)) (x.2, 0) (uG s r)
def dh (s : List Int) : Int × Int := uG s ay
def dH : List (List Int) -> Int -> Int × Int
 | [], n => (n, 0)
 | x :: r, n => cond (decide ((dh x).2 = 0)) (dH r (T.orK .i64 n (dh x).1)) (0, (dh x).2)
def bP (f m x : Int) : Int × Int := cond (!(eG f) || !(eG x)) (0, 1) (cond (decide (m = 0)) (x, 0) (cond (decide (m = 1)) (T.orK .i64 f x, 0) (cond (decide (m = 2)) (T.qY .i64 f x, 0) (0, 1))))
end U
namespace U
def eH (s : List Int) (o : List Int) (i : Int) : St2 := ⟨⟨[sS s] ++ U.n 2 ++ [sS o] ++ [sI i] ++ U.n 24, [], []⟩, 0, []⟩
def iC (s : List Int)  (o : List Int) (i : Int) : Prop := at_ s i /\ o = (s.take i.toNat).map aK
def kQ (s : List Int) (i : Int) : St2 := ⟨⟨[sS s] ++ U.n 5 ++ [some (.v ⟨true, [.arr 5 true (.pair .str (.int .i64)) ay]⟩)] ++ [sI i] ++ U.n 17, [], []⟩, 0, []⟩
def lM (s : List Int)  (i : Int) : Prop := 0 <= i /\ i <= 5 /\ uG s (ay.drop i.toNat) = dh s
def jL (s : List Int) (i : Int) : St2 := ⟨⟨[sS s] ++ U.n 3 ++ [sL true .str jy] ++ [sL true (.int .i64) oW] ++ [sI i] ++ U.n 25, [], []⟩, 0, []⟩
def kR (s : List Int)  (i : Int) : Prop := 0 <= i /\ i <= 5 /\ uG s (ay.drop i.toNat) = dh s
def jA (l : List (List Int)) (n : Int) (i : Int) : St2 := ⟨⟨U.n 4 ++ [sI n] ++ U.n 4 ++ [sL false .str l] ++ [sI l.length] ++ [sI i] ++ U.n 16, [], []⟩, 0, []⟩
def jM (l : List (List Int))  (n : Int) (i : Int) : Prop := at_ l i /\ dH (l.drop i.toNat) n = dH l 0
def jf (l : List (List Int)) (n : Int) (i : Int) : St2 := ⟨⟨[sL false .str l] ++ U.n 3 ++ [sI n] ++ [sI i] ++ U.n 23, [], []⟩, 0, []⟩
def jB (l : List (List Int))  (n : Int) (i : Int) : Prop := at_ l i /\ dH (l.drop i.toNat) n = dH l 0
def fF (q : Int) (l : List (List Int)) (i : Int) : St2 := ⟨⟨[sI q] ++ U.n 2 ++ [own 0] ++ U.n 2 ++ [some (.v ⟨true, [.arr 5 true (.pair .str (.int .i64)) ay]⟩)] ++ [sI i] ++ U.n 17, [], [(0, .row 9 .str true true l)]⟩, 1, []⟩
def iT (q : Int)  (l : List (List Int)) (i : Int) : Prop := 0 <= i /\ i <= 5 /\ l ++ dI q (ay.drop i.toNat) = dI q ay
def dn (q : Int) (o : List Int) (i : Int) : St2 := ⟨⟨[sI q] ++ U.n 2 ++ [sL true .str jy] ++ [sL true (.int .i64) oW] ++ [sS o] ++ [sI i] ++ U.n 28, [], []⟩, 0, []⟩
def fG (q : Int)  (o : List Int) (i : Int) : Prop := 0 <= i /\ i <= 5 /\ o = joinL [32] (dI q (ay.take i.toNat))
end U
def EF (s : List Int) : Vc.Loop := ⟨{ keep := [0, 3, 4] }, List Int × Int, fun x => U.eH s x.1 x.2, fun x0 x => U.iC s  x.1 x.2, fun x => s.length - x.2.toNat, fun p => ∀ x, p x, fun _ h => h⟩
def JG (s : List Int) : Vc.Loop := ⟨{ keep := [0, 6, 7] }, Int, fun x => U.kQ s x, fun x0 x => U.lM s  x, fun x => 5 - x.toNat, fun p => ∀ x, p x, fun _ h => h⟩
def G8 (s : List Int) : Vc.Loop := ⟨{ keep := [0, 4, 5, 6] }, Int, fun x => U.jL s x, fun x0 x => U.kR s  x, fun x => 5 - x.toNat, fun p => ∀ x, p x, fun _ h => h⟩
def FN (l : List (List Int)) : Vc.Loop := ⟨{ keep := [4, 9, 10, 11] }, Int × Int, fun x => U.jA l x.1 x.2, fun x0 x => U.jM l  x.1 x.2, fun x => l.length - x.2.toNat, fun p => ∀ x, p x, fun _ h => h⟩
def EG (l : List (List Int)) : Vc.Loop := ⟨{ keep := [0, 4, 5] }, Int × Int, fun x => U.jf l x.1 x.2, fun x0 x => U.jB l  x.1 x.2, fun x => l.length - x.2.toNat, fun p => ∀ x, p x, fun _ h => h⟩
def FP (q : Int) : Vc.Loop := ⟨{ keep := [0, 3, 6, 7], wake := [(3, 9)] }, List (List Int) × Int, fun x => U.fF q x.1 x.2, fun x0 x => U.iT q  x.1 x.2, fun x => 5 - x.2.toNat, fun p => ∀ x, p x, fun _ h => h⟩
def EH (q : Int) : Vc.Loop := ⟨{ keep := [0, 3, 4, 5, 6] }, List Int × Int, fun x => U.dn q x.1 x.2, fun x0 x => U.fG q  x.1 x.2, fun x => 5 - x.2.toNat, fun p => ∀ x, p x, fun _ h => h⟩
def uZ (f : Int) : Done := rB (U.eG f)
def BO : Vc.Sum := .pure [.int .i64] false fun x => uZ x
def BP (f : Int) : Nat -> List V -> Nat -> Option Vc.Loop := pK
def oZ : List (Nat × Ent) := (15, .sum BO) :: lT
def sU (f : Int) : Done := rB (U.eG f)
def zS : Vc.Sum := .pure [.int .i64] false fun x => sU x
def zT (f : Int) : Nat -> List V -> Nat -> Option Vc.Loop := pK
def nR : List (Nat × Ent) := (16, .sum zS) :: oZ
def vg (f : Int) (m : Int) (x : Int) : Done := ⟨[], .tup [one (.int .i64 (U.bP f m x).1), one (.int .i64 (U.bP f m x).2)], [], []⟩
def BQ : Vc.Sum := .pure [.int .i64, .int .i64, .int .i64] false fun x => vg x.1 x.2.1 x.2.2
def BR (f : Int) (m : Int) (x : Int) : Nat -> List V -> Nat -> Option Vc.Loop := pK
def o7 : List (Nat × Ent) := (7, .sum BQ) :: nR
def sV (f : Int) (m : Int) (x : Int) : Done := ⟨[], .tup [one (.int .i64 (U.bP f m x).1), one (.int .i64 (U.bP f m x).2)], [], []⟩
def zU : Vc.Sum := .pure [.int .i64, .int .i64, .int .i64] false fun x => sV x.1 x.2.1 x.2.2
def zV (f : Int) (m : Int) (x : Int) : Nat -> List V -> Nat -> Option Vc.Loop := pK
def nT : List (Nat × Ent) := (12, .sum zU) :: o7
def sW  : Done := ⟨[], .tup [one (.psl true .str U.jy), one (.psl true (.int .i64) U.oW)], [], []⟩
def zW : Vc.Sum := .pure [] false fun _ => sW
def zX  : Nat -> List V -> Nat -> Option Vc.Loop := pK
def nU : List (Nat × Ent) := (18, .sum zW) :: nT
def sZ (s : List Int) : Done := ⟨[], .one (.str (s.map aK)), [], []⟩
def zY : Vc.Sum := .pure [.str] false fun x => sZ x
def zZ (s : List Int) : Nat -> List V -> Nat -> Option Vc.Loop := fun f v k => cond (Nat.beq f 19 && Nat.beq k 3) (some (EF s)) <| none
def nV : List (Nat × Ent) := (19, .sum zY) :: nU
def Aa (s : List Int) : Done := ⟨[], .tup [one (.int .i64 (U.dh s).1), one (.int .i64 (U.dh s).2)], [], []⟩
def Gu : Vc.Sum := .pure [.str] false fun x => Aa x
def Gv (s : List Int) : Nat -> List V -> Nat -> Option Vc.Loop := fun f v k => cond (Nat.beq f 8 && Nat.beq k 2) (some (JG s)) <| none
def uH : List (Nat × Ent) := (8, .sum Gu) :: nV
def xO (s : List Int) : Done := ⟨[], .tup [one (.int .i64 (U.dh s).1), one (.int .i64 (U.dh s).2)], [], []⟩
def EI : Vc.Sum := .pure [.str] false fun x => xO x
def EJ (s : List Int) : Nat -> List V -> Nat -> Option Vc.Loop := fun f v k => cond (Nat.beq f 9 && Nat.beq k 3) (some (G8 s)) <| none
def qM : List (Nat × Ent) := (9, .sum EI) :: uH
def vk (l : List (List Int)) : Done := ⟨[], .tup [one (.int .i64 (U.dH l 0).1), one (.int .i64 (U.dH l 0).2)], [], []⟩
def BU : Vc.Sum := .pure [je] false fun x => vk x
def BX (l : List (List Int)) : Nat -> List V -> Nat -> Option Vc.Loop := fun f v k => cond (Nat.beq f 10 && Nat.beq k 3) (some (FN l)) <| none
def o8 : List (Nat × Ent) := (10, .sum BU) :: qM
def tq (l : List (List Int)) : Done := ⟨[], .tup [one (.int .i64 (U.dH l 0).1), one (.int .i64 (U.dH l 0).2)], [], []⟩
def Ac : Vc.Sum := .pure [je] false fun x => tq x
def Ad (l : List (List Int)) : Nat -> List V -> Nat -> Option Vc.Loop := fun f v k => cond (Nat.beq f 11 && Nat.beq k 3) (some (EG l)) <| none
def nX : List (Nat × Ent) := (11, .sum Ac) :: o8
def vC (q : Int) : Done := ⟨[], .one (.str (U.sQ q)), [], []⟩
def BZ : Vc.Sum := .pure [.int .i64] false fun x => vC x
def Cb (q : Int) : Nat -> List V -> Nat -> Option Vc.Loop := fun f v k => cond (Nat.beq f 13 && Nat.beq k 3) (some (FP q)) <| none
def o9 : List (Nat × Ent) := (13, .sum BZ) :: nX
def tu (q : Int) : Done := ⟨[], .one (.str (U.sQ q)), [], []⟩
def Ae : Vc.Sum := .pure [.int .i64] false fun x => tu x
def Af (q : Int) : Nat -> List V -> Nat -> Option Vc.Loop := fun f v k => cond (Nat.beq f 14 && Nat.beq k 4) (some (EH q)) <| none
def nY : List (Nat × Ent) := (14, .sum Ae) :: o9
end Go.Proofs.YtdobgidhhpdihaaDoor
set_option maxRecDepth 100000
set_option linter.unusedVariables false
namespace Go.Proofs.YtdobgidhhpdihaaDoor
open Go.Vc
def tC (f : Int) : Prop := decide (IntKind.i64.wrap (↑((BitVec.ofInt IntKind.i64.bits f).and (BitVec.ofInt IntKind.i64.bits (31 : Int)).not).toNat : Int) = (0 : Int)) = U.eG f /\ True
def qw (f : Int) : Prop := (bif decide (f >= (0 : Int)) then decide (f <= (31 : Int)) else false) = U.eG f /\ True
def tH (f : Int) (m : Int) (x : Int) : Prop := bif bif !U.eG f then true else !U.eG x then (0 : Int) = (U.bP f m x).1 /\ (1 : Int) = (U.bP f m x).2 /\ True else bif decide (m = (0 : Int)) then x = (U.bP f m x).1 /\ (0 : Int) = (U.bP f m x).2 /\ True else bif decide (m = (1 : Int)) then IntKind.i64.wrap (↑((BitVec.ofInt IntKind.i64.bits f).or (BitVec.ofInt
 IntKind.i64.bits x)).toNat : Int) = (U.bP f m x).1 /\ (0 : Int) = (U.bP f m x).2 /\ True else bif decide (m = (2 : Int)) then IntKind.i64.wrap (↑((BitVec.ofInt IntKind.i64.bits f).and (BitVec.ofInt IntKind.i64.bits x).not).toNat : Int) = (U.bP f m x).1 /\ (0 : Int) = (U.bP f m x).2 /\ True else (0 : Int) = (U.bP f m x).1 /\ (1 : Int) = (U.bP f m x).2 /\ True
def qx (f : Int) (m : Int) (x : Int) : Prop := bif bif bif bif !U.eG f then true else !U.eG x then true else decide (m < (0 : Int)) then true else decide (m > (2 : Int)) then (0 : Int) = (U.bP f m x).1 /\ (1 : Int) = (U.bP f m x).2 /\ True else bif decide (m = (0 : Int)) then x = (U.bP f m x).1 /\ (0 : Int) = (U.bP f m x).2 /\ True else bif decide (m = (1 : Int)) then
 IntKind.i64.wrap (↑((BitVec.ofInt IntKind.i64.bits f).or (BitVec.ofInt IntKind.i64.bits x)).toNat : Int) = (U.bP f m x).1 /\ (0 : Int) = (U.bP f m x).2 /\ True else IntKind.i64.wrap (↑((BitVec.ofInt IntKind.i64.bits f).and (BitVec.ofInt IntKind.i64.bits x).not).toNat : Int) = (U.bP f m x).1 /\ (0 : Int) = (U.bP f m x).2 /\ True
def x9 : Prop := (((([[], [], [], [], []].set (0 : Nat) [(92 : Int), (65 : Int), (110 : Int), (115 : Int), (119 : Int), (101 : Int), (114 : Int), (101 : Int), (100 : Int)]).set (1 : Nat) [(92 : Int), (70 : Int), (108 : Int), (97 : Int), (103 : Int), (103 : Int), (101 : Int), (100 : Int)]).set (2 : Nat) [(92 : Int), (68 : Int), (101 : Int), (108 : Int), (101 : Int), (116 : Int), (101 :
 Int), (100 : Int)]).set (3 : Nat) [(92 : Int), (83 : Int), (101 : Int), (101 : Int), (110 : Int)]).set (4 : Nat) [(92 : Int), (68 : Int), (114 : Int), (97 : Int), (102 : Int), (116 : Int)] = U.jy /\ (((([(0 : Int), (0 : Int), (0 : Int), (0 : Int), (0 : Int)].set (0 : Nat) (2 : Int)).set (1 : Nat) (4 : Int)).set (2 : Nat) (8 : Int)).set (3 : Nat) (1 : Int)).set (4 : Nat) (16 : Int) = U.oW /\
 True
def qy (s : List Int) : Prop := ∃ (x0 : List Int × Int), (U.eH s [] (0 : Int) = U.eH s x0.1 x0.2 /\ U.iC s x0.1 x0.2) /\ ∀ (x : List Int × Int), U.iC s x.1 x.2 -> bif decide (x.2 < (↑s.length : Int)) then (0 : Int) <= x.2 /\ x.2 < (↑s.length : Int) /\ bif bif decide (s.getD x.2.toNat (0 : Int) >= (65 : Int)) then decide (s.getD x.2.toNat (0 :
 Int) <= (90 : Int)) else false then x.1.length.add ((1 : Nat)) <= (9223372036854775807 : Nat) /\ ∃ (y : List Int × Int), U.eH s (x.1.append ([(0 : Int)].set (0 : Nat) (IntKind.u8.wrap ((s.getD x.2.toNat (0 : Int)).add (32 : Int))))) (IntKind.i64.wrap (x.2.add (1 : Int))) = U.eH s y.1 y.2 /\ U.iC s y.1 y.2 /\ s.length.sub y.2.toNat < s.length.sub x.2.toNat else
 x.1.length.add ((1 : Nat)) <= (9223372036854775807 : Nat) /\ ∃ (y : List Int × Int), U.eH s (x.1.append ([(0 : Int)].set (0 : Nat) (s.getD x.2.toNat (0 : Int)))) (IntKind.i64.wrap (x.2.add (1 : Int))) = U.eH s y.1 y.2 /\ U.iC s y.1 y.2 /\ s.length.sub y.2.toNat < s.length.sub x.2.toNat else x.1 = List.map aK s /\ True
def xP (s : List Int) : Prop := ∃ (x0 : Int), (U.kQ s (0 : Int) = U.kQ s x0 /\ U.lM s x0) /\ ∀ (x : Int), U.lM s x -> bif decide (x < (5 : Int)) then (0 : Int) <= x /\ x < (↑(5 : Nat) : Int) /\ (decide ((↑(ay.getD x.toNat ([], (0 : Int))).1.length : Int) = (↑s.length : Int)) = true -> (∀ (x_1 : Int), List.Mem x_1 (ay.getD x.toNat ([], (0 :
 Int))).1 -> x_1 < (128 : Int)) /\ (ay.getD x.toNat ([], (0 : Int))).1.length = s.length /\ (ay.getD x.toNat ([], (0 : Int))).1.length <= (1000 : Nat)) /\ bif bif decide ((↑(ay.getD x.toNat ([], (0 : Int))).1.length : Int) = (↑s.length : Int)) then decide (List.map aK (ay.getD x.toNat ([], (0 : Int))).1 = List.map aK s) else false then (ay.getD x.toNat ([], (0
 : Int))).2 = (U.dh s).1 /\ (0 : Int) = (U.dh s).2 /\ True else ∃ (y : Int), U.kQ s (IntKind.i64.wrap (x.add (1 : Int))) = U.kQ s y /\ U.lM s y /\ Nat.sub (5 : Nat) y.toNat < Nat.sub (5 : Nat) x.toNat else (0 : Int) = (U.dh s).1 /\ (3 : Int) = (U.dh s).2 /\ True
def vF (s : List Int) : Prop := ∃ (x0 : Int), (U.jL s (0 : Int) = U.jL s x0 /\ U.kR s x0) /\ ∀ (x : Int), U.kR s x -> bif bif decide (x < (5 : Int)) then decide ((↑s.length : Int) < (20 : Int)) else false then (0 : Int) <= x /\ x < (↑((5 : Nat)) : Int) /\ bif (List.map aK s).beq (List.map aK (U.jy.getD x.toNat [])) then (0 : Int) <= x /\ x < (↑((5
 : Nat)) : Int) /\ U.oW.getD x.toNat (0 : Int) = (U.dh s).1 /\ (0 : Int) = (U.dh s).2 /\ True else ∃ (y : Int), U.jL s (IntKind.i64.wrap (x.add (1 : Int))) = U.jL s y /\ U.kR s y /\ Nat.sub (5 : Nat) y.toNat < Nat.sub (5 : Nat) x.toNat else (0 : Int) = (U.dh s).1 /\ (3 : Int) = (U.dh s).2 /\ True
def tJ (l : List (List Int)) : Prop := ∃ (x0 : Int × Int), (U.jA l (0 : Int) (0 : Int) = U.jA l x0.1 x0.2 /\ U.jM l x0.1 x0.2) /\ ∀ (x : Int × Int), U.jM l x.1 x.2 -> bif decide (x.2 < (↑l.length : Int)) then (0 : Int) <= x.2 /\ x.2 < (↑l.length : Int) /\ bif (U.dh (l.getD x.2.toNat [])).2 != (0 : Int) then (0 : Int) = (U.dH l (0 : Int)).1 /\
 (U.dh (l.getD x.2.toNat [])).2 = (U.dH l (0 : Int)).2 /\ True else ∃ (y : Int × Int), U.jA l (IntKind.i64.wrap (↑((BitVec.ofInt IntKind.i64.bits x.1).or (BitVec.ofInt IntKind.i64.bits (U.dh (l.getD x.2.toNat [])).1)).toNat : Int)) (IntKind.i64.wrap (x.2.add (1 : Int))) = U.jA l y.1 y.2 /\ U.jM l y.1 y.2 /\ l.length.sub y.2.toNat < l.length.sub x.2.toNat else
 x.1 = (U.dH l (0 : Int)).1 /\ (0 : Int) = (U.dH l (0 : Int)).2 /\ True
def qA (l : List (List Int)) : Prop := ∃ (x0 : Int × Int), (U.jf l (0 : Int) (0 : Int) = U.jf l x0.1 x0.2 /\ U.jB l x0.1 x0.2) /\ ∀ (x : Int × Int), U.jB l x.1 x.2 -> bif decide (x.2 < (↑l.length : Int)) then (0 : Int) <= x.2 /\ x.2 < (↑l.length : Int) /\ bif (U.dh (l.getD x.2.toNat [])).2 != (0 : Int) then (0 : Int) = (U.dH l (0 :
 Int)).1 /\ (U.dh (l.getD x.2.toNat [])).2 = (U.dH l (0 : Int)).2 /\ True else ∃ (y : Int × Int), U.jf l (IntKind.i64.wrap (↑((BitVec.ofInt IntKind.i64.bits x.1).or (BitVec.ofInt IntKind.i64.bits (U.dh (l.getD x.2.toNat [])).1)).toNat : Int)) (IntKind.i64.wrap (x.2.add (1 : Int))) = U.jf l y.1 y.2 /\ U.jB l y.1 y.2 /\ l.length.sub y.2.toNat < l.length.sub
 x.2.toNat else x.1 = (U.dH l (0 : Int)).1 /\ (0 : Int) = (U.dH l (0 : Int)).2 /\ True
def tK (q : Int) : Prop := ∃ (x0 : List (List Int) × Int), (U.fF q [] (0 : Int) = U.fF q x0.1 x0.2 /\ U.iT q x0.1 x0.2) /\ ∀ (x : List (List Int) × Int), U.iT q x.1 x.2 -> bif decide (x.2 < (5 : Int)) then (0 : Int) <= x.2 /\ x.2 < (↑(5 : Nat) : Int) /\ bif IntKind.i64.wrap (↑((BitVec.ofInt IntKind.i64.bits q).and (BitVec.ofInt IntKind.i64.bits
 (ay.getD x.2.toNat ([], (0 : Int))).2)).toNat : Int) != (0 : Int) then (x.1.length.add ((1 : Nat))).mul (16 : Nat) <= (140737488355328 : Nat) /\ x.1.length.add ((1 : Nat)) <= maxLen /\ ∃ (y : List (List Int) × Int), U.fF q (x.1.append ([[]].set (0 : Nat) (ay.getD x.2.toNat ([], (0 : Int))).1)) (IntKind.i64.wrap (x.2.add (1 : Int))) = U.fF q y.1 y.2 /\
 U.iT q y.1 y.2 /\ Nat.sub (5 : Nat) y.2.toNat < Nat.sub (5 : Nat) x.2.toNat else ∃ (y : List (List Int) × Int), U.fF q x.1 (IntKind.i64.wrap (x.2.add (1 : Int))) = U.fF q y.1 y.2 /\ U.iT q y.1 y.2 /\ Nat.sub (5 : Nat) y.2.toNat < Nat.sub (5 : Nat) x.2.toNat else ((joinL [(32 : Int)] x.1).length <= (1000000 : Nat) /\ x.1.length <= (1000000 : Nat)) /\ Nat.add
 ((1 : Nat)) (joinL [(32 : Int)] x.1).length <= (9223372036854775807 : Nat) /\ ((joinL [(32 : Int)] x.1).length.add (1 : Nat)).add ((1 : Nat)) <= (9223372036854775807 : Nat) /\ (40 : Int) :: (joinL [(32 : Int)] x.1).append [(41 : Int)] = U.sQ q /\ True
def qB (q : Int) : Prop := ∃ (x0 : List Int × Int), (U.dn q [] (0 : Int) = U.dn q x0.1 x0.2 /\ U.fG q x0.1 x0.2) /\ ∀ (x : List Int × Int), U.fG q x.1 x.2 -> bif decide (x.2 < (5 : Int)) then (0 : Int) <= x.2 /\ x.2 < (↑((5 : Nat)) : Int) /\ bif IntKind.i64.wrap (↑((BitVec.ofInt IntKind.i64.bits q).and (BitVec.ofInt IntKind.i64.bits
 (U.oW.getD x.2.toNat (0 : Int)))).toNat : Int) != (0 : Int) then bif !x.1.beq [] then x.1.length.add ((1 : Nat)) <= (9223372036854775807 : Nat) /\ (0 : Int) <= x.2 /\ x.2 < (↑((5 : Nat)) : Int) /\ (x.1.append [(32 : Int)]).length.add (U.jy.getD x.2.toNat []).length <= (9223372036854775807 : Nat) /\ ∃ (y : List Int × Int), U.dn q ((x.1.append [(32 : Int)]).append (U.jy.getD
 x.2.toNat [])) (IntKind.i64.wrap (x.2.add (1 : Int))) = U.dn q y.1 y.2 /\ U.fG q y.1 y.2 /\ Nat.sub (5 : Nat) y.2.toNat < Nat.sub (5 : Nat) x.2.toNat else (0 : Int) <= x.2 /\ x.2 < (↑((5 : Nat)) : Int) /\ x.1.length.add (U.jy.getD x.2.toNat []).length <= (9223372036854775807 : Nat) /\ ∃ (y : List Int × Int), U.dn q (x.1.append (U.jy.getD x.2.toNat []))
 (IntKind.i64.wrap (x.2.add (1 : Int))) = U.dn q y.1 y.2 /\ U.fG q y.1 y.2 /\ Nat.sub (5 : Nat) y.2.toNat < Nat.sub (5 : Nat) x.2.toNat else ∃ (y : List Int × Int), U.dn q x.1 (IntKind.i64.wrap (x.2.add (1 : Int))) = U.dn q y.1 y.2 /\ U.fG q y.1 y.2 /\ Nat.sub (5 : Nat) y.2.toNat < Nat.sub (5 : Nat) x.2.toNat else Nat.add ((1 : Nat))
 x.1.length <= (9223372036854775807 : Nat) /\ (x.1.length.add (1 : Nat)).add ((1 : Nat)) <= (9223372036854775807 : Nat) /\ (40 : Int) :: x.1.append [(41 : Int)] = U.sQ q /\ True
end Go.Proofs.YtdobgidhhpdihaaDoor
set_option linter.unusedSimpArgs false
set_option linter.unusedVariables false
set_option maxRecDepth 100000
namespace Go.Proofs.YtdobgidhhpdihaaDoor
open Go.Vc
open Go.Vc.T
theorem gZ : ay.length = 5 := by decide +kernel
theorem Gw : ∀ k : Fin 5, (ay.getD k.val ([], 0)) = (U.jy.getD k.val [], U.oW.getD k.val 0) /\ ((ay.getD k.val ([], 0)).1.length <= 9 /\ 1 <= (ay.getD k.val ([], 0)).1.length) /\ (∀ x ∈ (ay.getD k.val ([], 0)).1, 0 <= x /\ x < 128) := by decide +kernel
theorem Di {i : Int} (i0 : 0 <= i) (hi : i < 5) : ay.drop i.toNat = ay.getD i.toNat ([], 0) :: ay.drop (i + 1).toNat := by
 rw [drop_at i0 (by rw [gZ]; omega), getD_at (by rw [gZ]; omega)]
theorem N7 {i : Int} (i0 : 0 <= i) (hi : i < 5) : ay.take (i + 1).toNat = ay.take i.toNat ++ [ay.getD i.toNat ([], 0)] := by
 rw [take_at i0 (by rw [gZ]; omega), getD_at (by rw [gZ]; omega)]
theorem Ag {i : Int} (hi : 5 <= i) : ay.drop i.toNat = [] := drop_end (by rw [gZ]; omega)
theorem xQ {i : Int} (i0 : 0 <= i) (hi : i < 5) : (ay.getD i.toNat ([], 0)) = (U.jy.getD i.toNat [], U.oW.getD i.toNat 0) /\ ((ay.getD i.toNat ([], 0)).1.length <= 9 /\ 1 <= (ay.getD i.toNat ([], 0)).1.length) /\ (∀ x ∈ (ay.getD i.toNat ([], 0)).1, 0 <= x /\ x < 128) := Gw ⟨i.toNat, by omega⟩
theorem JH (a b : List Int) : a.beq b = decide (a = b) := by rw [PK, Bool.eq_iff_iff]; simp
theorem MC (q b : Int) : (jT .i64 q b != 0) = U.lF q b := by
 unfold U.lF
 by_cases h : jT .i64 q b = 0
 ·rw [decide_eq_true h, h]; rfl
 ·rw [decide_eq_false h]; exact bne_iff_ne.2 h
theorem N8 (s : List Int) (l : List (List Int)) (x : List Int) : joinL s (l ++ [x]) = cond (decide (l = [])) x (joinL s l ++ (s ++ x)) := by
 cases l with
 | nil => simp [joinL]
 | cons y r => simp [joinL]
theorem Gx (q : Int) : ∀ (l : List (List Int × Int)) (x : List Int × Int), U.dI q (l ++ [x]) = U.dI q l ++ cond (U.lF q x.2) [x.1] []
 | [], x => by show cond (U.lF q x.2) [x.1] [] = _; cases U.lF q x.2 <;> rfl
 | y :: r, x => by
   show cond (U.lF q y.2) (y.1 :: U.dI q (r ++ [x])) (U.dI q (r ++ [x])) = _
   rw [Gx q r x]
   show _ = cond (U.lF q y.2) (y.1 :: U.dI q r) (U.dI q r) ++ _
   cases U.lF q y.2 <;> rfl
theorem xR (q : Int) : ∀ (l : List (List Int × Int)) (x : List Int), x ∈ U.dI q l -> ∃ b, (x, b) ∈ l
 | y :: r, x, h => by
   have h : x ∈ cond (U.lF q y.2) (y.1 :: U.dI q r) (U.dI q r) := h
   cases hb : U.lF q y.2 with
   | true =>
     rw [hb] at h
     rcases List.mem_cons.1 h with rfl | h
     ·exact ⟨y.2, by simp⟩
     ·obtain ⟨b, h⟩ := xR q r x h; exact ⟨b, List.mem_cons_of_mem _ h⟩
   | false => rw [hb] at h; obtain ⟨b, h⟩ := xR q r x h; exact ⟨b, List.mem_cons_of_mem _ h⟩
theorem JI (q : Int) : ∀ (l : List (List Int × Int)), (U.dI q l).length <= l.length
 | [] => Nat.le_refl _
 | y :: r => by
   show (cond (U.lF q y.2) (y.1 :: U.dI q r) (U.dI q r)).length <= _
   have := JI q r
   cases U.lF q y.2 <;> simp <;> omega
theorem OX : ∀ (l : List (List Int)), (∀ x ∈ l, x.length <= 9) -> (joinL [32] l).length <= 10 * l.length
 | [], _ => Nat.zero_le _
 | x :: r, h => by
   have key : ∀ r : List (List Int), (∀ x ∈ r, x.length <= 9) -> ((r.map ([32] ++ ·)).flatten).length <= 10 * r.length := by
    intro r
    induction r with
    | nil => intro _; exact Nat.zero_le _
    | cons y r ih =>
      intro h
      have h1 := h y (by simp)
      have h2 := ih fun x hx => h x (List.mem_cons_of_mem _ hx)
      simp only [List.map_cons, List.flatten_cons, List.length_append, List.length_cons, List.length_nil] at h2 ⊢
      omega
   have h1 := h x (by simp)
   have h2 := key r fun x hx => h x (List.mem_cons_of_mem _ hx)
   simp only [joinL, List.length_append, List.length_cons] at h2 ⊢
   omega
theorem Ah {x : List Int} {b : Int} (h : (x, b) ∈ ay) : x.length <= 9 /\ 1 <= x.length := by
 obtain ⟨i, hi, he⟩ := List.getElem_of_mem h
 rw [gZ] at hi
 have := (Gw ⟨i, hi⟩).2.1
 dsimp only at this
 rw [getD_at (by rw [gZ]; exact hi), he] at this
 exact this
theorem Gy {q : Int} {l : List (List Int × Int)} (h : ∀ x ∈ l, x ∈ ay) (hl : l.length <= 5) : (U.dI q l).length <= 5 /\ (joinL [32] (U.dI q l)).length <= 50 := by
 have h1 := JI q l
 have h2 := OX (U.dI q l) fun x hx => by
  obtain ⟨b, hb⟩ := xR q l x hx
  exact (Ah (h _ hb)).1
 omega
theorem Rq (x : BitVec 64) : (x &&& ~~~(BitVec.ofInt 64 31)) = 0#64 ↔ x.toNat < 32 := by
 have h31 : ∀ i < 64, (~~~(BitVec.ofInt 64 31)).getLsbD i = decide (5 <= i) := by decide
 constructor
 ·intro h
  refine Nat.lt_pow_two_of_testBit (n := 5) _ fun i hi => ?_
  by_cases h64 : i < 64
  ·have := congrArg (fun y : BitVec 64 => y.getLsbD i) h
   simp only [BitVec.getLsbD_and, h31 i h64, decide_eq_true hi, Bool.and_true, BitVec.getLsbD_zero] at this
   exact this
  ·exact BitVec.getLsbD_of_ge x i (by omega)
 ·intro h
  apply BitVec.eq_of_getLsbD_eq
  intro i hi
  rw [BitVec.getLsbD_and, h31 i hi, BitVec.getLsbD_zero]
  by_cases h5 : 5 <= i
  ·have : x.toNat.testBit i = false := Nat.testBit_lt_two_pow (Nat.lt_of_lt_of_le h (Nat.pow_le_pow_right (n := 2) (by decide) h5))
   rw [show x.getLsbD i = x.toNat.testBit i from rfl, this]; rfl
  ·rw [decide_eq_false h5, Bool.and_false]
theorem QF {f : Int} (h : -9223372036854775808 <= f /\ f <= 9223372036854775807) : decide (qY .i64 f 31 = 0) = U.eG f := by
 unfold U.eG qY
 rw [Bool.eq_iff_iff, decide_eq_true_eq, Bool.and_eq_true, decide_eq_true_eq, decide_eq_true_eq]
 have hb := Rq (BitVec.ofInt 64 f)
 have hn : (BitVec.ofInt 64 f).toNat = (f % 18446744073709551616).toNat := by rw [BitVec.toNat_ofInt]; rfl
 have hz : IntKind.i64.wrap (((BitVec.ofInt 64 f) &&& ~~~(BitVec.ofInt 64 31)).toNat : Int) = 0 ↔ ((BitVec.ofInt 64 f) &&& ~~~(BitVec.ofInt 64 31)) = 0#64 := by
  have hlt := ((BitVec.ofInt 64 f) &&& ~~~(BitVec.ofInt 64 31)).isLt
  rw [wrap_i64, <- BitVec.toNat_inj, show (0#64).toNat = 0 from rfl]; omega
 show IntKind.i64.wrap (((BitVec.ofInt 64 f) &&& ~~~(BitVec.ofInt 64 31)).toNat : Int) = 0 ↔ _
 rw [hz, hb, hn]; omega
theorem JJ (f : Int) (h : -9223372036854775808 <= f /\ f <= 9223372036854775807) : tC f := by
 unfold tC
 exact ⟨QF h, trivial⟩
theorem G9 (f : Int) : qw f := by
 unfold qw U.eG
 rw [kL]
 exact ⟨rfl, trivial⟩
theorem JK (f m x : Int) : tH f m x := by
 unfold tH
 simp only [qX, wo, xJ]
 unfold U.bP
 cases (!U.eG f || !U.eG x) with
 | true => exact ⟨rfl, rfl, trivial⟩
 | false =>
   cases decide (m = 0) with
   | true => exact ⟨rfl, rfl, trivial⟩
   | false =>
     cases decide (m = 1) with
     | true => exact ⟨rfl, rfl, trivial⟩
     | false => cases decide (m = 2) <;> exact ⟨rfl, rfl, trivial⟩
theorem He (f m x : Int) : qx f m x := by
 unfold qx
 simp only [qX, wo, xJ]
 unfold U.bP
 cases (!U.eG f || !U.eG x) with
 | true => exact ⟨rfl, rfl, trivial⟩
 | false =>
   rw [cond_false, Bool.false_or]
   by_cases h : m < 0 ∨ m > 2
   ·have e : (decide (m < 0) || decide (m > 2)) = true := by rw [Bool.or_eq_true, decide_eq_true_eq, decide_eq_true_eq]; exact h
    rw [e, decide_eq_false (by omega : ¬ m = 0), decide_eq_false (by omega : ¬ m = 1), decide_eq_false (by omega : ¬ m = 2)]
    exact ⟨rfl, rfl, trivial⟩
   ·have e : (decide (m < 0) || decide (m > 2)) = false := by rw [decide_eq_false (by omega), decide_eq_false (by omega)]; rfl
    rw [e, cond_false]
    by_cases h0 : m = 0
    ·rw [decide_eq_true h0]; exact ⟨rfl, rfl, trivial⟩
    rw [decide_eq_false h0]
    by_cases h1 : m = 1
    ·rw [decide_eq_true h1]; exact ⟨rfl, rfl, trivial⟩
    rw [decide_eq_false h1, decide_eq_true (by omega : m = 2)]
    exact ⟨rfl, rfl, trivial⟩
theorem Hf : x9 := ⟨rfl, rfl, trivial⟩
theorem Hg (s : List Int) (hv : Valid .str s) : qy s := by
 have hle : s.length <= maxLen := hv.2
 rw [maxLen_eq] at hle
 unfold qy U.iC U.at_
 simp only [kL, uU, FH, eU]
 refine ⟨([], 0), ⟨rfl, ⟨Int.le_refl 0, by dsimp only; omega⟩, rfl⟩, ?_⟩
 rintro ⟨o, i⟩ ⟨⟨i0, i1⟩, hI⟩
 dsimp only at i0 i1 hI ⊢
 have hol : (o.length : Int) = i := by rw [hI, List.length_map, List.length_take]; omega
 rw [cond_prop]
 refine ⟨fun hi => ?_, fun hi => ?_⟩
 ·have hi : i < s.length := of_decide_eq_true hi
  have hx := hv.1 _ (List.getElem_mem (show i.toNat < s.length by omega))
  rw [getD_at (by omega), lC (by omega) (by omega)]
  have st : (s.take (i + 1).toNat).map aK = o ++ [aK (s[i.toNat]'(by omega))] := by rw [take_at i0 hi, List.map_append, <- hI]; rfl
  generalize s[i.toNat]'(by omega) = x at *
  refine ⟨i0, hi, ?_⟩
  rw [cond_prop]
  refine ⟨fun h => ⟨by omega, (_, i + 1), rfl, ⟨⟨by dsimp only; omega, by dsimp only; omega⟩, ?_⟩, by dsimp only; omega⟩, fun h => ⟨by omega, (_, i + 1), rfl, ⟨⟨by dsimp only; omega, by dsimp only; omega⟩, ?_⟩, by dsimp only; omega⟩⟩
  ·simp only [Bool.and_eq_true, decide_eq_true_eq] at h
   dsimp only
   rw [st]
   show o ++ [IntKind.u8.wrap (x.add 32)] = _
   rw [FD, wrap_u8]
   unfold aK; rw [if_pos ⟨by omega, by omega⟩, Int.emod_eq_of_lt (by omega) (by omega)]
  ·have h : ¬ (65 <= x /\ x <= 90) := by
    rintro ⟨h1, h2⟩
    rw [decide_eq_true h2, decide_eq_true (by omega : x >= 65)] at h; cases h
   dsimp only
   rw [st]
   show o ++ [x] = _
   unfold aK; rw [if_neg h]
 ·have hi : ¬ i < s.length := of_decide_eq_false hi
  rw [xK (by omega)] at hI
  exact ⟨hI, trivial⟩
theorem OY (a b : List Int) : (a.map aK = b.map aK) -> a.length = b.length := fun h => by have := congrArg List.length h; simpa using this
theorem N9 (s : List Int) (hv : Valid .str s) : xP s := by
 unfold xP U.lM
 simp only [kL]
 refine ⟨0, ⟨rfl, Int.le_refl 0, by omega, rfl⟩, ?_⟩
 rintro i ⟨i0, i1, hI⟩
 rw [cond_prop]
 refine ⟨fun hi => ?_, fun hi => ?_⟩
 ·have hi : i < 5 := of_decide_eq_true hi
  obtain ⟨_, k2, k3⟩ := xQ i0 hi
  rw [Di i0 hi] at hI
  generalize ay.getD i.toNat ([], 0) = x at *
  rw [lC (by omega) (by omega)]
  have hI : cond (decide (x.1.map aK = s.map aK)) (x.2, 0) (U.uG s (ay.drop (i + 1).toNat)) = U.dh s := hI
  refine ⟨i0, hi, fun h => ⟨fun y hy => (k3 y hy).2, by have := of_decide_eq_true h; omega, by omega⟩, ?_⟩
  by_cases h : x.1.map aK = s.map aK
  ·rw [decide_eq_true h] at hI ⊢
   rw [decide_eq_true (by have := OY _ _ h; omega), <- hI]
   exact ⟨rfl, rfl, trivial⟩
  ·rw [decide_eq_false h] at hI ⊢
   rw [Bool.and_false]
   exact ⟨i + 1, rfl, ⟨by omega, by omega, hI⟩, by simp only [eU]; omega⟩
 ·have hi : ¬ i < 5 := of_decide_eq_false hi
  rw [Ag (by omega)] at hI
  rw [<- hI]; exact ⟨rfl, rfl, trivial⟩
theorem JL : ∀ (l : List (List Int × Int)) (s : List Int), (∀ x ∈ l, x.1.length <= 9) -> 20 <= s.length -> U.uG s l = (0, 3)
 | [], _, _, _ => rfl
 | x :: r, s, h, hl => by
   show cond (decide (x.1.map aK = s.map aK)) (x.2, 0) (U.uG s r) = _
   rw [decide_eq_false (fun e => by have := OY _ _ e; have := h x (by simp); omega), cond_false]
   exact JL r s (fun y hy => h y (List.mem_cons_of_mem _ hy)) hl
theorem Lj (s : List Int) (hv : Valid .str s) : vF s := by
 unfold vF U.kR
 simp only [kL, JH]
 refine ⟨0, ⟨rfl, Int.le_refl 0, by omega, rfl⟩, ?_⟩
 rintro i ⟨i0, i1, hI⟩
 rw [cond_prop]
 refine ⟨fun hi => ?_, fun hi => ?_⟩
 ·simp only [Bool.and_eq_true, decide_eq_true_eq] at hi
  obtain ⟨k1, k2, k3⟩ := xQ i0 hi.1
  rw [Di i0 hi.1] at hI
  have e1 : U.jy.getD i.toNat [] = (ay.getD i.toNat ([], 0)).1 := by rw [k1]
  have e2 : U.oW.getD i.toNat 0 = (ay.getD i.toNat ([], 0)).2 := by rw [k1]
  rw [e1, e2]
  generalize ay.getD i.toNat ([], 0) = x at *
  rw [lC (by omega) (by omega)]
  have hI : cond (decide (x.1.map aK = s.map aK)) (x.2, 0) (U.uG s (ay.drop (i + 1).toNat)) = U.dh s := hI
  refine ⟨i0, by show i < (5 : Int); omega, ?_⟩
  by_cases h : x.1.map aK = s.map aK
  ·rw [decide_eq_true h] at hI
   rw [decide_eq_true h.symm, <- hI]
   exact ⟨i0, by show i < (5 : Int); omega, rfl, rfl, trivial⟩
  ·rw [decide_eq_false h] at hI
   rw [decide_eq_false (fun e => h e.symm)]
   exact ⟨i + 1, rfl, ⟨by omega, by omega, hI⟩, by simp only [eU]; omega⟩
 ·by_cases h5 : i < 5
  ·have h20 : 20 <= s.length := by
    rw [decide_eq_true h5, Bool.true_and] at hi
    have := of_decide_eq_false hi; omega
   have : U.dh s = (0, 3) := JL ay s (fun x hx => (Ah (x := x.1) (b := x.2) hx).1) h20
   rw [this]; exact ⟨rfl, rfl, trivial⟩
  ·rw [Ag (by omega)] at hI
   rw [<- hI]; exact ⟨rfl, rfl, trivial⟩
theorem JM {l : List (List Int)} {i : Int} (n : Int) (i0 : 0 <= i) (hi : i < l.length) : U.dH (l.drop i.toNat) n = cond (decide ((U.dh (l[i.toNat]'(by omega))).2 = 0)) (U.dH (l.drop (i + 1).toNat) (orK .i64 n (U.dh (l[i.toNat]'(by omega))).1)) (0, (U.dh (l[i.toNat]'(by omega))).2) := by
 rw [drop_at i0 hi]; rfl
theorem JO (l : List (List Int)) (hl : l.length <= maxLen) : tJ l := by
 rw [maxLen_eq] at hl
 unfold tJ U.jM U.at_
 simp only [wo]
 refine ⟨(0, 0), ⟨rfl, ⟨Int.le_refl 0, by dsimp only; omega⟩, rfl⟩, ?_⟩
 rintro ⟨n, i⟩ ⟨⟨i0, i1⟩, hI⟩
 dsimp only at i0 i1 hI ⊢
 rw [cond_prop]
 refine ⟨fun hi => ?_, fun hi => ?_⟩
 ·have hi : i < l.length := of_decide_eq_true hi
  rw [getD_at (by omega), lC (by omega) (by omega)]
  rw [JM n i0 hi] at hI
  refine ⟨i0, hi, ?_⟩
  by_cases h : (U.dh (l[i.toNat]'(by omega))).2 = 0
  ·rw [decide_eq_true h] at hI
   rw [h, bne_self_eq_false, cond_false]
   exact ⟨(_, i + 1), rfl, ⟨⟨by dsimp only; omega, by dsimp only; omega⟩, hI⟩, by simp only [eU]; omega⟩
  ·rw [decide_eq_false h] at hI
   rw [bne_iff_ne.2 h, cond_true, <- hI]
   exact ⟨rfl, rfl, trivial⟩
 ·have hi : ¬ i < l.length := of_decide_eq_false hi
  rw [drop_end (by omega)] at hI
  rw [<- hI]; exact ⟨rfl, rfl, trivial⟩
theorem Hl (l : List (List Int)) (hl : l.length <= maxLen) : qA l := by
 rw [maxLen_eq] at hl
 unfold qA U.jB U.at_
 simp only [wo]
 refine ⟨(0, 0), ⟨rfl, ⟨Int.le_refl 0, by dsimp only; omega⟩, rfl⟩, ?_⟩
 rintro ⟨n, i⟩ ⟨⟨i0, i1⟩, hI⟩
 dsimp only at i0 i1 hI ⊢
 rw [cond_prop]
 refine ⟨fun hi => ?_, fun hi => ?_⟩
 ·have hi : i < l.length := of_decide_eq_true hi
  rw [getD_at (by omega), lC (by omega) (by omega)]
  rw [JM n i0 hi] at hI
  refine ⟨i0, hi, ?_⟩
  by_cases h : (U.dh (l[i.toNat]'(by omega))).2 = 0
  ·rw [decide_eq_true h] at hI
   rw [h, bne_self_eq_false, cond_false]
   exact ⟨(_, i + 1), rfl, ⟨⟨by dsimp only; omega, by dsimp only; omega⟩, hI⟩, by simp only [eU]; omega⟩
  ·rw [decide_eq_false h] at hI
   rw [bne_iff_ne.2 h, cond_true, <- hI]
   exact ⟨rfl, rfl, trivial⟩
 ·have hi : ¬ i < l.length := of_decide_eq_false hi
  rw [drop_end (by omega)] at hI
  rw [<- hI]; exact ⟨rfl, rfl, trivial⟩
theorem JQ (q : Int) : tK q := by
 unfold tK U.iT
 simp only [FI, MC, uU, FH, Qx, maxLen_eq]
 have htot := Gy (q := q) (l := ay) (fun _ h => h) (by rw [gZ]; omega)
 refine ⟨([], 0), ⟨rfl, Int.le_refl 0, by dsimp only; omega, rfl⟩, ?_⟩
 rintro ⟨l, i⟩ ⟨i0, i1, hI⟩
 dsimp only at i0 i1 hI ⊢
 have hll : l.length <= 5 := by
  have := congrArg List.length hI
  rw [List.length_append] at this; omega
 rw [cond_prop]
 refine ⟨fun hi => ?_, fun hi => ?_⟩
 ·have hi : i < 5 := of_decide_eq_true hi
  rw [Di i0 hi] at hI
  generalize ay.getD i.toNat ([], 0) = x at *
  rw [lC (by omega) (by omega)]
  have hI : l ++ cond (U.lF q x.2) (x.1 :: U.dI q (ay.drop (i + 1).toNat)) (U.dI q (ay.drop (i + 1).toNat)) = U.dI q ay := hI
  refine ⟨i0, by show i < (5 : Int); omega, ?_⟩
  cases hb : U.lF q x.2 with
  | true =>
    rw [hb] at hI
    refine ⟨by omega, by omega, (l ++ [x.1], i + 1), rfl, ⟨by dsimp only; omega, by dsimp only; omega, ?_⟩, by simp only [eU]; omega⟩
    dsimp only
    rw [<- hI, List.append_assoc]; rfl
  | false =>
    rw [hb] at hI
    exact ⟨(l, i + 1), rfl, ⟨by dsimp only; omega, by dsimp only; omega, hI⟩, by simp only [eU]; omega⟩
 ·have hi : ¬ i < 5 := of_decide_eq_false hi
  rw [Ag (by omega)] at hI
  have hI : l ++ [] = U.dI q ay := hI
  rw [List.append_nil] at hI
  rw [hI]
  exact ⟨⟨by omega, by omega⟩, by omega, by omega, rfl, trivial⟩
theorem Ho (q : Int) : qB q := by
 unfold qB U.fG
 simp only [FI, MC, uU, FH, JH]
 have hmem : ∀ n, ∀ x ∈ ay.take n, x ∈ ay := fun n x h => List.mem_of_mem_take h
 refine ⟨([], 0), ⟨rfl, Int.le_refl 0, by dsimp only; omega, rfl⟩, ?_⟩
 rintro ⟨o, i⟩ ⟨i0, i1, hI⟩
 dsimp only at i0 i1 hI ⊢
 have hol : o.length <= 50 := by
  rw [hI]
  exact (Gy (hmem _) (by rw [List.length_take, gZ]; omega)).2
 rw [cond_prop]
 refine ⟨fun hi => ?_, fun hi => ?_⟩
 ·have hi : i < 5 := of_decide_eq_true hi
  obtain ⟨k1, k2, k3⟩ := xQ i0 hi
  have e1 : U.jy.getD i.toNat [] = (ay.getD i.toNat ([], 0)).1 := by rw [k1]
  have e2 : U.oW.getD i.toNat 0 = (ay.getD i.toNat ([], 0)).2 := by rw [k1]
  have hst := Gx q (ay.take i.toNat) (ay.getD i.toNat ([], 0))
  rw [<- N7 i0 hi] at hst
  rw [e1, e2]
  have hpos : ∀ y ∈ U.dI q (ay.take i.toNat), y ≠ [] := fun y hy e => by
   obtain ⟨b, hb⟩ := xR q _ y hy
   have := (Ah (hmem _ _ hb)).2
   rw [e] at this; simp at this
  generalize U.dI q (ay.take i.toNat) = l at *
  generalize ay.getD i.toNat ([], 0) = x at *
  rw [lC (by omega) (by omega)]
  have ho : (o = []) ↔ l = [] := by
   rw [hI]
   cases l with
   | nil => simp [joinL]
   | cons y r =>
     have := hpos y (by simp)
     simp [joinL, this]
  refine ⟨i0, by show i < (5 : Int); omega, ?_⟩
  cases hb : U.lF q x.2 with
  | true =>
    rw [hb, cond_true] at hst
    have hj := N8 [32] l x.1
    rw [cond_true, cond_prop]
    refine ⟨fun h => ?_, fun h => ?_⟩
    ·have h : o ≠ [] := by simpa using h
     have hl : l ≠ [] := fun e => h (ho.2 e)
     rw [decide_eq_false hl, cond_false, <- hI] at hj
     refine ⟨by omega, i0, by show i < (5 : Int); omega, by simp only [List.length_append, List.length_cons, List.length_nil]; omega, (_, i + 1), rfl, ⟨by dsimp only; omega, by dsimp only; omega, ?_⟩, by simp only [eU]; omega⟩
     dsimp only
     rw [hst, hj, List.append_assoc]
    ·have h : o = [] := by simpa using h
     have hl : l = [] := ho.1 h
     rw [decide_eq_true hl, cond_true] at hj
     refine ⟨i0, by show i < (5 : Int); omega, by omega, (_, i + 1), rfl, ⟨by dsimp only; omega, by dsimp only; omega, ?_⟩, by simp only [eU]; omega⟩
     dsimp only
     rw [hst, hj, h]; rfl
  | false =>
    rw [hb, cond_false, List.append_nil] at hst
    exact ⟨(o, i + 1), rfl, ⟨by dsimp only; omega, by dsimp only; omega, by dsimp only; rw [hst, hI]⟩, by simp only [eU]; omega⟩
 ·have hi : ¬ i < 5 := of_decide_eq_false hi
  rw [xK (by rw [gZ]; omega)] at hI
  refine ⟨by omega, by omega, ?_, trivial⟩
  rw [hI]; rfl
end Go.Proofs.YtdobgidhhpdihaaDoor
set_option linter.unusedSimpArgs false
set_option maxRecDepth 100000
set_option linter.unusedVariables false
namespace Go.Proofs.YtdobgidhhpdihaaDoor
open Go.Vc
theorem Ll (x : aS [.int .i64]) : iO Tryd.prog (dY lT) (BP x) 15 (fA [.int .i64] x) [] (uZ x) = tC x := by kernel_rfl
theorem Lm : Pok 15 [.int .i64] (fun x => uZ x) := by
 refine pk (L := fun x => BP x) (l := lT) wz (fun _ => rfl) ?_
 intro x hv hp
 rw [Ll]
 exact JJ x (T.SC hv)
theorem Lp : gu Tryd.prog gl 15 BO := Lm
theorem Ai : dS oZ := .cons Lp wz
theorem JR (x : aS [.int .i64]) : iO Tryd.prog (dY oZ) (zT x) 16 (fA [.int .i64] x) [] (sU x) = qw x := by kernel_rfl
theorem JU : Pok 16 [.int .i64] (fun x => sU x) := by
 refine pk (L := fun x => zT x) (l := oZ) Ai (fun _ => rfl) ?_
 intro x hv hp
 rw [JR]
 exact G9 x
theorem JV : gu Tryd.prog gl 16 zS := JU
theorem yg : dS nR := .cons JV Ai
theorem Lr (x : aS [.int .i64, .int .i64, .int .i64]) : iO Tryd.prog (dY nR) (BR x.1 x.2.1 x.2.2) 7 (fA [.int .i64, .int .i64, .int .i64] x) [] (vg x.1 x.2.1 x.2.2) = tH x.1 x.2.1 x.2.2 := by kernel_rfl
theorem Ls : Pok 7 [.int .i64, .int .i64, .int .i64] (fun x => vg x.1 x.2.1 x.2.2) := by
 refine pk (L := fun x => BR x.1 x.2.1 x.2.2) (l := nR) yg (fun _ => rfl) ?_
 intro x hv hp
 rw [Lr]
 exact JK x.1 x.2.1 x.2.2
theorem Lu : gu Tryd.prog gl 7 BQ := Ls
theorem Aj : dS o7 := .cons Lu yg
theorem JW (x : aS [.int .i64, .int .i64, .int .i64]) : iO Tryd.prog (dY o7) (zV x.1 x.2.1 x.2.2) 12 (fA [.int .i64, .int .i64, .int .i64] x) [] (sV x.1 x.2.1 x.2.2) = qx x.1 x.2.1 x.2.2 := by kernel_rfl
theorem JX : Pok 12 [.int .i64, .int .i64, .int .i64] (fun x => sV x.1 x.2.1 x.2.2) := by
 refine pk (L := fun x => zV x.1 x.2.1 x.2.2) (l := o7) Aj (fun _ => rfl) ?_
 intro x hv hp
 rw [JW]
 exact He x.1 x.2.1 x.2.2
theorem JY : gu Tryd.prog gl 12 zU := JX
theorem yh : dS nT := .cons JY Aj
theorem JZ (x : aS []) : iO Tryd.prog (dY nT) (zX ) 18 (fA [] x) [] (sW ) = x9  := by kernel_rfl
theorem J3 : Pok 18 [] (fun x => sW ) := by
 refine pk (L := fun x => zX ) (l := nT) yh (fun _ => rfl) ?_
 intro x hv hp
 rw [JZ]
 exact Hf
theorem J4 : gu Tryd.prog gl 18 zW := J3
theorem yj : dS nU := .cons J4 yh
theorem J5 (x : aS [.str]) : iO Tryd.prog (dY nU) (zZ x) 19 (fA [.str] x) [] (sZ x) = qy x := by kernel_rfl
theorem J6 : Pok 19 [.str] (fun x => sZ x) := by
 refine pk (L := fun x => zZ x) (l := nU) yj (fun _ => rfl) ?_
 intro x hv hp
 rw [J5]
 exact Hg x hv
theorem J7 : gu Tryd.prog gl 19 zY := J6
theorem yt : dS nV := .cons J7 yj
theorem OZ (x : aS [.str]) : iO Tryd.prog (dY nV) (Gv x) 8 (fA [.str] x) [] (Aa x) = xP x := by kernel_rfl
theorem O1 : Pok 8 [.str] (fun x => Aa x) := by
 refine pk (L := fun x => Gv x) (l := nV) yt (fun _ => rfl) ?_
 intro x hv hp
 rw [OZ]
 exact N9 x hv
theorem O4 : gu Tryd.prog gl 8 Gu := O1
theorem EK : dS uH := .cons O4 yt
theorem Oa (x : aS [.str]) : iO Tryd.prog (dY uH) (EJ x) 9 (fA [.str] x) [] (xO x) = vF x := by kernel_rfl
theorem Ob : Pok 9 [.str] (fun x => xO x) := by
 refine pk (L := fun x => EJ x) (l := uH) EK (fun _ => rfl) ?_
 intro x hv hp
 rw [Oa]
 exact Lj x hv
theorem Oc : gu Tryd.prog gl 9 EI := Ob
theorem Cc : dS qM := .cons Oc EK
theorem LC (x : aS [je]) : iO Tryd.prog (dY qM) (BX x) 10 (fA [je] x) [] (vk x) = tJ x := by kernel_rfl
theorem LD : Pok 10 [je] (fun x => vk x) := by
 refine pk (L := fun x => BX x) (l := qM) Cc (fun _ => rfl) ?_
 intro x hv hp
 rw [LC]
 exact JO x hv.2
theorem LG : gu Tryd.prog gl 10 BU := LD
theorem Ak : dS o8 := .cons LG Cc
theorem J8 (x : aS [je]) : iO Tryd.prog (dY o8) (Ad x) 11 (fA [je] x) [] (tq x) = qA x := by kernel_rfl
theorem J9 : Pok 11 [je] (fun x => tq x) := by
 refine pk (L := fun x => Ad x) (l := o8) Ak (fun _ => rfl) ?_
 intro x hv hp
 rw [J8]
 exact Hl x hv.2
theorem Ko : gu Tryd.prog gl 11 Ac := J9
theorem yu : dS nX := .cons Ko Ak
theorem LH (x : aS [.int .i64]) : iO Tryd.prog (dY nX) (Cb x) 13 (fA [.int .i64] x) [] (vC x) = tK x := by kernel_rfl
theorem LJ : Pok 13 [.int .i64] (fun x => vC x) := by
 refine pk (L := fun x => Cb x) (l := nX) yu (fun _ => rfl) ?_
 intro x hv hp
 rw [LH]
 exact JQ x
theorem LK : gu Tryd.prog gl 13 BZ := LJ
theorem Am : dS o9 := .cons LK yu
theorem Kq (x : aS [.int .i64]) : iO Tryd.prog (dY o9) (Af x) 14 (fA [.int .i64] x) [] (tu x) = qB x := by kernel_rfl
theorem Kr : Pok 14 [.int .i64] (fun x => tu x) := by
 refine pk (L := fun x => Af x) (l := o9) Am (fun _ => rfl) ?_
 intro x hv hp
 rw [Kq]
 exact Ho x
theorem Kt : gu Tryd.prog gl 14 Ae := Kr
theorem yw : dS nY := .cons Kt Am
end Go.Proofs.YtdobgidhhpdihaaDoor
