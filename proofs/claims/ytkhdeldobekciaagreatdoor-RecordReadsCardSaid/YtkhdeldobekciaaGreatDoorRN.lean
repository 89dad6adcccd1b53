/- What functions of this seat compute, in plain Lean. -/
import Derived.Test.YtkhdeldobekciaaGreatDoorRK
import Derived.Test.YtkhdeldobekciaaGreatDoorRM
set_option linter.unusedVariables false
set_option linter.unusedSimpArgs false
set_option maxRecDepth 100000
namespace Go.Proofs.YtkhdeldobekciaaGreatDoor
open Go.Vc
abbrev dH : Ty := .pair (.arr 32 (.int .u8)) (.int .i64)
abbrev Chain := List Int × Int
namespace U
def pR (c : Chain) : Bool := decide (c.2 >= 0) && decide (c.2 <= 1099511627776)
def nT : Chain := (List.replicate 32 0, 0)
def TJ (c : Chain) (e : Event) : List Int := c.1 ++ (num1 (c.2 + 1) ++ Aw e)
def lF (c : Chain) (b : List Int) : Chain := (sum b, IntKind.i64.wrap (c.2 + 1))
def bM (c : Chain) (e : Event) : List Int × Chain × Int := cond (!(bV e) || !(pR c)) ([], nT, 1) (cond (decide (c.2 = 1099511627776)) ([], nT, 15) (TJ c e, lF c (TJ c e), 0))
def dP (b : List Int) : Int × RS := let n := ah (b.drop 32, 0); (n.1, cZ (decide (n.1 < 1) || decide (n.1 > 1099511627776)) n.2)
def ak (b : List Int) : Chain × Event × Int := cond (decide (b.length < 32)) (nT, zeroE, 2) (cond (decide ((dP b).2.2 = 0)) (cond (decide ((aN (b.drop 40)).2 = 0)) ((b.take 32, (dP b).1 - 1), (aN (b.drop 40)).1, 0) (nT, zeroE, (aN (b.drop 40)).2)) (nT, zeroE, (dP b).2.2))
def aC (c : Chain) (b : List Int) : Chain × Event × Int := cond (decide ((ak b).2.2 = 0)) (cond (decide ((ak b).1 = c)) (lF c b, (ak b).2.1, 0) (nT, zeroE, 11)) (nT, zeroE, (ak b).2.2)
end U
namespace U
def jU (b : List Int) (h : List Int) (e : Event) (n : Int) (i : Int) : St2 := ⟨⟨[sL false (.int .u8) b] ++ U.n 1 ++ [sP 0 0] ++ [sP 1 0] ++ U.n 3 ++ [sP 2 0] ++ U.n 1 ++ [sP 3 0] ++ [sI i] ++ U.n 59, [], [(0, .obj [.arr 32 true (.int .u8) (List.replicate 32 0), .int .i64 0]), (1, .obj [.int .i64 0, .int .i64 0, .str [], .str [], .aF, .aF, .int .i64 0, .int .i64 0, .int .i64 0, .int .i64 0, .aF]), (2, .obj [.int .i64 e.1, .int .i64 e.2.1, .str e.2.2.1, .str e.2.2.2.1, .psl false (.int .i64) e.2.2.2.2.1, .psl false gJ e.2.2.2.2.2.1, .int .i64 e.2.2.2.2.2.2.1, .int .i64 e.2.2.2.2.2.2.2.1, .int .i64 e.2.2.2.2.2.2.2.2.1, .int .i64 e.2.2.2.2.2.2.2.2.2.1, .psl false (.int .u8) e.2.2.2.2.2.2.2.2.2.2]), (3, .obj [.arr 32 true (.int .u8) h, .int .i64 n])]⟩, 4, []⟩
def wF (b : List Int)  (h : List Int) (e : Event) (n : Int) (i : Int) : Prop := 0 <= i /\ i <= 32 /\ 32 <= b.length /\ h = b.take i.toNat ++ List.replicate (32 - i.toNat) 0 /\ n = (dP b).1 - 1 /\ e = (aN (b.drop 40)).1 /\ (aN (b.drop 40)).2 = 0 /\ (dP b).2.2 = 0
end U
def Zc (b : List Int) : Vc.Loop := ⟨{ keep := [0, 2, 3, 7, 9, 10] }, List Int × Event × Int × Int, fun x => U.jU b x.1 x.2.1 x.2.2.1 x.2.2.2, fun x0 x => U.wF b  x.1 x.2.1 x.2.2.1 x.2.2.2, fun x => (32 - x.2.2.2).toNat⟩
def FU (c : Chain) : Done := rB (U.pR c)
def PO : Vc.Sum := .pure [dH] false fun x => FU x
def PS (c : Chain) : Nat -> List V -> Nat -> Option Vc.Loop := bW
def yA : List (Nat × Ent) := (10, .sum PO) :: Hq
def yB (c : Chain) (b : List Int) : Done := ⟨[b.length <= 1000000000000], .v (.of false dH (U.lF c b)), [], []⟩
def PU : Vc.Sum := .pure [dH, aI] true fun x => yB x.1 x.2
def PV (c : Chain) (b : List Int) : Nat -> List V -> Nat -> Option Vc.Loop := bW
def yC : List (Nat × Ent) := (20, .sum PU) :: yA
def vG (c : Chain) (e : Event) : Done := ⟨[(U.dG e).length <= 1000000000000, (U.eTo e).length <= 1000000000000], .tup [one (.psl true (.int .u8) (U.bM c e).1), .of false dH (U.bM c e).2.1, one (.int .i64 (U.bM c e).2.2)], [], []⟩
def TK : Vc.Sum := .pure [dH, dA] true fun x => vG x.1 x.2
def TL (c : Chain) (e : Event) : Nat -> List V -> Nat -> Option Vc.Loop := bW
def A8 : List (Nat × Ent) := (7, .sum TK) :: yC
def Ba (b : List Int) : Done := ⟨[b.length <= 1000000000], .tup [.of false dH (U.ak b).1, .of false dA (U.ak b).2.1, one (.int .i64 (U.ak b).2.2)], [], []⟩
def TM : Vc.Sum := .pure [aI] true fun x => Ba x
def TN (b : List Int) : Nat -> List V -> Nat -> Option Vc.Loop := bW
def Bc : List (Nat × Ent) := (12, .sum TM) :: A8
def Bd (c : Chain) (b : List Int) : Done := ⟨[b.length <= 1000000000], .tup [.of false dH (U.aC c b).1, .of false dA (U.aC c b).2.1, one (.int .i64 (U.aC c b).2.2)], [], []⟩
def TP : Vc.Sum := .pure [dH, aI] true fun x => Bd x.1 x.2
def TQ (c : Chain) (b : List Int) : Nat -> List V -> Nat -> Option Vc.Loop := bW
def Bf : List (Nat × Ent) := (14, .sum TP) :: Bc
def DT (b : List Int) : Done := ⟨[b.length <= 1000000000], .tup [.of false dH (U.ak b).1, .of false dA (U.ak b).2.1, one (.int .i64 (U.ak b).2.2)], [], []⟩
def Wp : Vc.Sum := .pure [aI] true fun x => DT x
def Wq (b : List Int) : Nat -> List V -> Nat -> Option Vc.Loop := fun f v k => cond (Nat.beq f 13 && Nat.beq k 13) (some (Zc b)) <| none
def DU : List (Nat × Ent) := (13, .sum Wp) :: Bf
def DV (c : Chain) (b : List Int) : Done := ⟨[b.length <= 1000000000], .tup [.of false dH (U.aC c b).1, .of false dA (U.aC c b).2.1, one (.int .i64 (U.aC c b).2.2)], [], []⟩
def Ws : Vc.Sum := .pure [dH, aI] true fun x => DV x.1 x.2
def Wu (c : Chain) (b : List Int) : Nat -> List V -> Nat -> Option Vc.Loop := bW
def DW : List (Nat × Ent) := (15, .sum Ws) :: DU
end Go.Proofs.YtkhdeldobekciaaGreatDoor
set_option maxRecDepth 100000
set_option linter.unusedVariables false
namespace Go.Proofs.YtkhdeldobekciaaGreatDoor
open Go.Vc
def CZ (c : Chain) : Prop := (bif decide (c.2 >= (0 : Int)) then decide (c.2 <= (1099511627776 : Int)) else false) = U.pR c /\ True
def MO (c : Chain) (b : List Int) : Prop := b.length <= (1000000000000 : Nat) /\ U.sum b = (U.lF c b).1 /\ IntKind.i64.wrap (c.2.add (1 : Int)) = (U.lF c b).2 /\ True
def FV (c : Chain) (e : Event) : Prop := (U.dG e).length <= (1000000000000 : Nat) /\ (U.eTo e).length <= (1000000000000 : Nat) /\ bif bif (U.yK e).2 != (0 : Int) then true else !U.pR c then [] = (U.bM c e).1 /\ [(0 : Int), (0 : Int), (0 : Int), (0 : Int), (0 : Int), (0 : Int), (0 : Int), (0 : Int), (0 : Int), (0 : Int), (0 : Int), (0 : Int), (0 : Int), (0 : Int), (0 : Int), (0 :
 Int), (0 : Int), (0 : Int), (0 : Int), (0 : Int), (0 : Int), (0 : Int), (0 : Int), (0 : Int), (0 : Int), (0 : Int), (0 : Int), (0 : Int), (0 : Int), (0 : Int), (0 : Int), (0 : Int)] = (U.bM c e).2.1.1 /\ (0 : Int) = (U.bM c e).2.1.2 /\ (1 : Int) = (U.bM c e).2.2 /\ True else bif decide (c.2 = (1099511627776 : Int)) then [] = (U.bM c e).1 /\ [(0 : Int), (0 : Int), (0 : Int), (0 :
 Int), (0 : Int), (0 : Int), (0 : Int), (0 : Int), (0 : Int), (0 : Int), (0 : Int), (0 : Int), (0 : Int), (0 : Int), (0 : Int), (0 : Int), (0 : Int), (0 : Int), (0 : Int), (0 : Int), (0 : Int), (0 : Int), (0 : Int), (0 : Int), (0 : Int), (0 : Int), (0 : Int), (0 : Int), (0 : Int), (0 : Int), (0 : Int), (0 : Int)] = (U.bM c e).2.1.1 /\ (0 : Int) = (U.bM c e).2.1.2 /\ (15 : Int) = (U.bM c
 e).2.2 /\ True else (0 : Int) <= (0 : Int) /\ (0 : Int) <= (↑(32 : Nat) : Int) /\ (↑(32 : Nat) : Int) <= (↑(32 : Nat) : Int) /\ (List.take ((↑(32 : Nat) : Int).toNat.sub (0 : Nat)) (List.drop (0 : Nat) c.1)).length <= (1000000000000 : Nat) /\ (1 : Nat) <= (100000000000 : Nat) /\ (((List.take ((↑(32 : Nat) : Int).toNat.sub (0 : Nat)) (List.drop (0 : Nat) c.1)).append (U.nums ([(0 : Int)].set (0 : Nat)
 (IntKind.i64.wrap (c.2.add (1 : Int)))))).append ((U.yK e).1.append [])).length <= (70000000000000 : Nat) /\ (((List.take ((↑(32 : Nat) : Int).toNat.sub (0 : Nat)) (List.drop (0 : Nat) c.1)).append (U.nums ([(0 : Int)].set (0 : Nat) (IntKind.i64.wrap (c.2.add (1 : Int)))))).append ((U.yK e).1.append [])).length <= (1000000000000 : Nat) /\ ((List.take ((↑(32 : Nat) : Int).toNat.sub (0 : Nat))
 (List.drop (0 : Nat) c.1)).append (U.nums ([(0 : Int)].set (0 : Nat) (IntKind.i64.wrap (c.2.add (1 : Int)))))).append ((U.yK e).1.append []) = (U.bM c e).1 /\ (U.lF c (((List.take ((↑(32 : Nat) : Int).toNat.sub (0 : Nat)) (List.drop (0 : Nat) c.1)).append (U.nums ([(0 : Int)].set (0 : Nat) (IntKind.i64.wrap (c.2.add (1 : Int)))))).append ((U.yK e).1.append []))).1 = (U.bM c
 e).2.1.1 /\ (U.lF c (((List.take ((↑(32 : Nat) : Int).toNat.sub (0 : Nat)) (List.drop (0 : Nat) c.1)).append (U.nums ([(0 : Int)].set (0 : Nat) (IntKind.i64.wrap (c.2.add (1 : Int)))))).append ((U.yK e).1.append []))).2 = (U.bM c e).2.1.2 /\ (0 : Int) = (U.bM c e).2.2 /\ True
def FW (b : List Int) : Prop := bif decide ((↑b.length : Int) < (32 : Int)) then [(0 : Int), (0 : Int), (0 : Int), (0 : Int), (0 : Int), (0 : Int), (0 : Int), (0 : Int), (0 : Int), (0 : Int), (0 : Int), (0 : Int), (0 : Int), (0 : Int), (0 : Int), (0 : Int), (0 : Int), (0 : Int), (0 : Int), (0 : Int), (0 : Int), (0 : Int), (0 : Int), (0 : Int), (0 : Int), (0 : Int), (0 : Int), (0 : Int),
 (0 : Int), (0 : Int), (0 : Int), (0 : Int)] = (U.ak b).1.1 /\ (0 : Int) = (U.ak b).1.2 /\ (0 : Int) = (U.ak b).2.1.1 /\ (0 : Int) = (U.ak b).2.1.2.1 /\ [] = (U.ak b).2.1.2.2.1 /\ [] = (U.ak b).2.1.2.2.2.1 /\ [] = (U.ak b).2.1.2.2.2.2.1 /\ [] = (U.ak b).2.1.2.2.2.2.2.1 /\ (0 : Int) = (U.ak b).2.1.2.2.2.2.2.2.1 /\ (0 : Int) = (U.ak b).2.1.2.2.2.2.2.2.2.1 /\ (0
 : Int) = (U.ak b).2.1.2.2.2.2.2.2.2.2.1 /\ (0 : Int) = (U.ak b).2.1.2.2.2.2.2.2.2.2.2.1 /\ [] = (U.ak b).2.1.2.2.2.2.2.2.2.2.2.2 /\ (2 : Int) = (U.ak b).2.2 /\ True else (0 : Int) <= (32 : Int) /\ (32 : Int) <= (↑b.length : Int) /\ (↑b.length : Int) <= (↑b.length : Int) /\ bif (U.cZ (bif decide ((U.ah (List.take ((↑b.length : Int).toNat.sub (32 : Nat)) (List.drop (32 : Nat) b), (0 :
 Int))).1 < (1 : Int)) then true else decide ((U.ah (List.take ((↑b.length : Int).toNat.sub (32 : Nat)) (List.drop (32 : Nat) b), (0 : Int))).1 > (1099511627776 : Int))) (U.ah (List.take ((↑b.length : Int).toNat.sub (32 : Nat)) (List.drop (32 : Nat) b), (0 : Int))).2).2 != (0 : Int) then [(0 : Int), (0 : Int), (0 : Int), (0 : Int), (0 : Int), (0 : Int), (0 : Int), (0 : Int), (0 : Int), (0 :
 Int), (0 : Int), (0 : Int), (0 : Int), (0 : Int), (0 : Int), (0 : Int), (0 : Int), (0 : Int), (0 : Int), (0 : Int), (0 : Int), (0 : Int), (0 : Int), (0 : Int), (0 : Int), (0 : Int), (0 : Int), (0 : Int), (0 : Int), (0 : Int), (0 : Int), (0 : Int)] = (U.ak b).1.1 /\ (0 : Int) = (U.ak b).1.2 /\ (0 : Int) = (U.ak b).2.1.1 /\ (0 : Int) = (U.ak b).2.1.2.1 /\ [] = (U.ak b).2.1.2.2.1
 /\ [] = (U.ak b).2.1.2.2.2.1 /\ [] = (U.ak b).2.1.2.2.2.2.1 /\ [] = (U.ak b).2.1.2.2.2.2.2.1 /\ (0 : Int) = (U.ak b).2.1.2.2.2.2.2.2.1 /\ (0 : Int) = (U.ak b).2.1.2.2.2.2.2.2.2.1 /\ (0 : Int) = (U.ak b).2.1.2.2.2.2.2.2.2.2.1 /\ (0 : Int) = (U.ak b).2.1.2.2.2.2.2.2.2.2.2.1 /\ [] = (U.ak b).2.1.2.2.2.2.2.2.2.2.2.2 /\ (U.cZ (bif decide ((U.ah (List.take ((↑b.length
 : Int).toNat.sub (32 : Nat)) (List.drop (32 : Nat) b), (0 : Int))).1 < (1 : Int)) then true else decide ((U.ah (List.take ((↑b.length : Int).toNat.sub (32 : Nat)) (List.drop (32 : Nat) b), (0 : Int))).1 > (1099511627776 : Int))) (U.ah (List.take ((↑b.length : Int).toNat.sub (32 : Nat)) (List.drop (32 : Nat) b), (0 : Int))).2).2 = (U.ak b).2.2 /\ True else (0 : Int) <= (40 : Int) /\ (40 : Int)
 <= (↑b.length : Int) /\ (↑b.length : Int) <= (↑b.length : Int) /\ (List.take ((↑b.length : Int).toNat.sub (40 : Nat)) (List.drop (40 : Nat) b)).length <= (1000000000 : Nat) /\ bif (U.aN (List.take ((↑b.length : Int).toNat.sub (40 : Nat)) (List.drop (40 : Nat) b))).2 != (0 : Int) then [(0 : Int), (0 : Int), (0 : Int), (0 : Int), (0 : Int), (0 : Int), (0 : Int), (0 : Int), (0 : Int), (0 : Int), (0 :
 Int), (0 : Int), (0 : Int), (0 : Int), (0 : Int), (0 : Int), (0 : Int), (0 : Int), (0 : Int), (0 : Int), (0 : Int), (0 : Int), (0 : Int), (0 : Int), (0 : Int), (0 : Int), (0 : Int), (0 : Int), (0 : Int), (0 : Int), (0 : Int), (0 : Int)] = (U.ak b).1.1 /\ (0 : Int) = (U.ak b).1.2 /\ (0 : Int) = (U.ak b).2.1.1 /\ (0 : Int) = (U.ak b).2.1.2.1 /\ [] = (U.ak b).2.1.2.2.1 /\ [] =
 (U.ak b).2.1.2.2.2.1 /\ [] = (U.ak b).2.1.2.2.2.2.1 /\ [] = (U.ak b).2.1.2.2.2.2.2.1 /\ (0 : Int) = (U.ak b).2.1.2.2.2.2.2.2.1 /\ (0 : Int) = (U.ak b).2.1.2.2.2.2.2.2.2.1 /\ (0 : Int) = (U.ak b).2.1.2.2.2.2.2.2.2.2.1 /\ (0 : Int) = (U.ak b).2.1.2.2.2.2.2.2.2.2.2.1 /\ [] = (U.ak b).2.1.2.2.2.2.2.2.2.2.2.2 /\ (U.aN (List.take ((↑b.length : Int).toNat.sub (40 : Nat))
 (List.drop (40 : Nat) b))).2 = (U.ak b).2.2 /\ True else (32 : Nat) <= b.length /\ List.take (32 : Nat) b = (U.ak b).1.1 /\ IntKind.i64.wrap ((U.ah (List.take ((↑b.length : Int).toNat.sub (32 : Nat)) (List.drop (32 : Nat) b), (0 : Int))).1.sub (1 : Int)) = (U.ak b).1.2 /\ (U.aN (List.take ((↑b.length : Int).toNat.sub (40 : Nat)) (List.drop (40 : Nat) b))).1.1 = (U.ak b).2.1.1 /\
 (U.aN (List.take ((↑b.length : Int).toNat.sub (40 : Nat)) (List.drop (40 : Nat) b))).1.2.1 = (U.ak b).2.1.2.1 /\ (U.aN (List.take ((↑b.length : Int).toNat.sub (40 : Nat)) (List.drop (40 : Nat) b))).1.2.2.1 = (U.ak b).2.1.2.2.1 /\ (U.aN (List.take ((↑b.length : Int).toNat.sub (40 : Nat)) (List.drop (40 : Nat) b))).1.2.2.2.1 = (U.ak b).2.1.2.2.2.1 /\ (U.aN (List.take ((↑b.length :
 Int).toNat.sub (40 : Nat)) (List.drop (40 : Nat) b))).1.2.2.2.2.1 = (U.ak b).2.1.2.2.2.2.1 /\ (U.aN (List.take ((↑b.length : Int).toNat.sub (40 : Nat)) (List.drop (40 : Nat) b))).1.2.2.2.2.2.1 = (U.ak b).2.1.2.2.2.2.2.1 /\ (U.aN (List.take ((↑b.length : Int).toNat.sub (40 : Nat)) (List.drop (40 : Nat) b))).1.2.2.2.2.2.2.1 = (U.ak b).2.1.2.2.2.2.2.2.1 /\ (U.aN (List.take
 ((↑b.length : Int).toNat.sub (40 : Nat)) (List.drop (40 : Nat) b))).1.2.2.2.2.2.2.2.1 = (U.ak b).2.1.2.2.2.2.2.2.2.1 /\ (U.aN (List.take ((↑b.length : Int).toNat.sub (40 : Nat)) (List.drop (40 : Nat) b))).1.2.2.2.2.2.2.2.2.1 = (U.ak b).2.1.2.2.2.2.2.2.2.2.1 /\ (U.aN (List.take ((↑b.length : Int).toNat.sub (40 : Nat)) (List.drop (40 : Nat) b))).1.2.2.2.2.2.2.2.2.2.1 = (U.ak
 b).2.1.2.2.2.2.2.2.2.2.2.1 /\ (U.aN (List.take ((↑b.length : Int).toNat.sub (40 : Nat)) (List.drop (40 : Nat) b))).1.2.2.2.2.2.2.2.2.2.2 = (U.ak b).2.1.2.2.2.2.2.2.2.2.2.2 /\ (0 : Int) = (U.ak b).2.2 /\ True
def FX (c : Chain) (b : List Int) : Prop := b.length <= (1000000000 : Nat) /\ bif (U.ak b).2.2 != (0 : Int) then [(0 : Int), (0 : Int), (0 : Int), (0 : Int), (0 : Int), (0 : Int), (0 : Int), (0 : Int), (0 : Int), (0 : Int), (0 : Int), (0 : Int), (0 : Int), (0 : Int), (0 : Int), (0 : Int), (0 : Int), (0 : Int), (0 : Int), (0 : Int), (0 : Int), (0 : Int), (0 : Int), (0 : Int), (0 :
 Int), (0 : Int), (0 : Int), (0 : Int), (0 : Int), (0 : Int), (0 : Int), (0 : Int)] = (U.aC c b).1.1 /\ (0 : Int) = (U.aC c b).1.2 /\ (0 : Int) = (U.aC c b).2.1.1 /\ (0 : Int) = (U.aC c b).2.1.2.1 /\ [] = (U.aC c b).2.1.2.2.1 /\ [] = (U.aC c b).2.1.2.2.2.1 /\ [] = (U.aC c b).2.1.2.2.2.2.1 /\ [] = (U.aC c b).2.1.2.2.2.2.2.1 /\ (0 : Int) = (U.aC c
 b).2.1.2.2.2.2.2.2.1 /\ (0 : Int) = (U.aC c b).2.1.2.2.2.2.2.2.2.1 /\ (0 : Int) = (U.aC c b).2.1.2.2.2.2.2.2.2.2.1 /\ (0 : Int) = (U.aC c b).2.1.2.2.2.2.2.2.2.2.2.1 /\ [] = (U.aC c b).2.1.2.2.2.2.2.2.2.2.2.2 /\ (U.ak b).2.2 = (U.aC c b).2.2 /\ True else bif !((U.ak b).1.1.beq c.1 && (decide ((U.ak b).1.2 = c.2) && true)) then [(0 : Int), (0 : Int), (0 : Int), (0 :
 Int), (0 : Int), (0 : Int), (0 : Int), (0 : Int), (0 : Int), (0 : Int), (0 : Int), (0 : Int), (0 : Int), (0 : Int), (0 : Int), (0 : Int), (0 : Int), (0 : Int), (0 : Int), (0 : Int), (0 : Int), (0 : Int), (0 : Int), (0 : Int), (0 : Int), (0 : Int), (0 : Int), (0 : Int), (0 : Int), (0 : Int), (0 : Int), (0 : Int)] = (U.aC c b).1.1 /\ (0 : Int) = (U.aC c b).1.2 /\ (0 : Int) = (U.aC c
 b).2.1.1 /\ (0 : Int) = (U.aC c b).2.1.2.1 /\ [] = (U.aC c b).2.1.2.2.1 /\ [] = (U.aC c b).2.1.2.2.2.1 /\ [] = (U.aC c b).2.1.2.2.2.2.1 /\ [] = (U.aC c b).2.1.2.2.2.2.2.1 /\ (0 : Int) = (U.aC c b).2.1.2.2.2.2.2.2.1 /\ (0 : Int) = (U.aC c b).2.1.2.2.2.2.2.2.2.1 /\ (0 : Int) = (U.aC c b).2.1.2.2.2.2.2.2.2.2.1 /\ (0 : Int) = (U.aC c b).2.1.2.2.2.2.2.2.2.2.2.1 /\ [] =
 (U.aC c b).2.1.2.2.2.2.2.2.2.2.2.2 /\ (11 : Int) = (U.aC c b).2.2 /\ True else b.length <= (1000000000000 : Nat) /\ (U.lF c b).1 = (U.aC c b).1.1 /\ (U.lF c b).2 = (U.aC c b).1.2 /\ (U.ak b).2.1.1 = (U.aC c b).2.1.1 /\ (U.ak b).2.1.2.1 = (U.aC c b).2.1.2.1 /\ (U.ak b).2.1.2.2.1 = (U.aC c b).2.1.2.2.1 /\ (U.ak b).2.1.2.2.2.1 = (U.aC c
 b).2.1.2.2.2.1 /\ (U.ak b).2.1.2.2.2.2.1 = (U.aC c b).2.1.2.2.2.2.1 /\ (U.ak b).2.1.2.2.2.2.2.1 = (U.aC c b).2.1.2.2.2.2.2.1 /\ (U.ak b).2.1.2.2.2.2.2.2.1 = (U.aC c b).2.1.2.2.2.2.2.2.1 /\ (U.ak b).2.1.2.2.2.2.2.2.2.1 = (U.aC c b).2.1.2.2.2.2.2.2.2.1 /\ (U.ak b).2.1.2.2.2.2.2.2.2.2.1 = (U.aC c b).2.1.2.2.2.2.2.2.2.2.1 /\ (U.ak
 b).2.1.2.2.2.2.2.2.2.2.2.1 = (U.aC c b).2.1.2.2.2.2.2.2.2.2.2.1 /\ (U.ak b).2.1.2.2.2.2.2.2.2.2.2.2 = (U.aC c b).2.1.2.2.2.2.2.2.2.2.2.2 /\ (0 : Int) = (U.aC c b).2.2 /\ True
def Jz (b : List Int) : Prop := bif decide ((↑b.length : Int) < (32 : Int)) then [(0 : Int), (0 : Int), (0 : Int), (0 : Int), (0 : Int), (0 : Int), (0 : Int), (0 : Int), (0 : Int), (0 : Int), (0 : Int), (0 : Int), (0 : Int), (0 : Int), (0 : Int), (0 : Int), (0 : Int), (0 : Int), (0 : Int), (0 : Int), (0 : Int), (0 : Int), (0 : Int), (0 : Int), (0 : Int), (0 : Int), (0 : Int), (0 : Int),
 (0 : Int), (0 : Int), (0 : Int), (0 : Int)] = (U.ak b).1.1 /\ (0 : Int) = (U.ak b).1.2 /\ (0 : Int) = (U.ak b).2.1.1 /\ (0 : Int) = (U.ak b).2.1.2.1 /\ [] = (U.ak b).2.1.2.2.1 /\ [] = (U.ak b).2.1.2.2.2.1 /\ [] = (U.ak b).2.1.2.2.2.2.1 /\ [] = (U.ak b).2.1.2.2.2.2.2.1 /\ (0 : Int) = (U.ak b).2.1.2.2.2.2.2.2.1 /\ (0 : Int) = (U.ak b).2.1.2.2.2.2.2.2.2.1 /\ (0
 : Int) = (U.ak b).2.1.2.2.2.2.2.2.2.2.1 /\ (0 : Int) = (U.ak b).2.1.2.2.2.2.2.2.2.2.2.1 /\ [] = (U.ak b).2.1.2.2.2.2.2.2.2.2.2.2 /\ (2 : Int) = (U.ak b).2.2 /\ True else (0 : Int) <= (32 : Int) /\ (32 : Int) <= (↑b.length : Int) /\ (↑b.length : Int) <= (↑b.length : Int) /\ bif (U.cZ (bif decide ((U.ah (List.take ((↑b.length : Int).toNat.sub (32 : Nat)) (List.drop (32 : Nat) b), (0 :
 Int))).1 < (1 : Int)) then true else decide ((U.ah (List.take ((↑b.length : Int).toNat.sub (32 : Nat)) (List.drop (32 : Nat) b), (0 : Int))).1 > (1099511627776 : Int))) (U.ah (List.take ((↑b.length : Int).toNat.sub (32 : Nat)) (List.drop (32 : Nat) b), (0 : Int))).2).2 != (0 : Int) then [(0 : Int), (0 : Int), (0 : Int), (0 : Int), (0 : Int), (0 : Int), (0 : Int), (0 : Int), (0 : Int), (0 :
 Int), (0 : Int), (0 : Int), (0 : Int), (0 : Int), (0 : Int), (0 : Int), (0 : Int), (0 : Int), (0 : Int), (0 : Int), (0 : Int), (0 : Int), (0 : Int), (0 : Int), (0 : Int), (0 : Int), (0 : Int), (0 : Int), (0 : Int), (0 : Int), (0 : Int), (0 : Int)] = (U.ak b).1.1 /\ (0 : Int) = (U.ak b).1.2 /\ (0 : Int) = (U.ak b).2.1.1 /\ (0 : Int) = (U.ak b).2.1.2.1 /\ [] = (U.ak b).2.1.2.2.1
 /\ [] = (U.ak b).2.1.2.2.2.1 /\ [] = (U.ak b).2.1.2.2.2.2.1 /\ [] = (U.ak b).2.1.2.2.2.2.2.1 /\ (0 : Int) = (U.ak b).2.1.2.2.2.2.2.2.1 /\ (0 : Int) = (U.ak b).2.1.2.2.2.2.2.2.2.1 /\ (0 : Int) = (U.ak b).2.1.2.2.2.2.2.2.2.2.1 /\ (0 : Int) = (U.ak b).2.1.2.2.2.2.2.2.2.2.2.1 /\ [] = (U.ak b).2.1.2.2.2.2.2.2.2.2.2.2 /\ (U.cZ (bif decide ((U.ah (List.take ((↑b.length
 : Int).toNat.sub (32 : Nat)) (List.drop (32 : Nat) b), (0 : Int))).1 < (1 : Int)) then true else decide ((U.ah (List.take ((↑b.length : Int).toNat.sub (32 : Nat)) (List.drop (32 : Nat) b), (0 : Int))).1 > (1099511627776 : Int))) (U.ah (List.take ((↑b.length : Int).toNat.sub (32 : Nat)) (List.drop (32 : Nat) b), (0 : Int))).2).2 = (U.ak b).2.2 /\ True else (U.cZ (bif decide ((U.ah
 (List.take ((↑b.length : Int).toNat.sub (32 : Nat)) (List.drop (32 : Nat) b), (0 : Int))).1 < (1 : Int)) then true else decide ((U.ah (List.take ((↑b.length : Int).toNat.sub (32 : Nat)) (List.drop (32 : Nat) b), (0 : Int))).1 > (1099511627776 : Int))) (U.ah (List.take ((↑b.length : Int).toNat.sub (32 : Nat)) (List.drop (32 : Nat) b), (0 : Int))).2).1.length <= (1000000000 : Nat) /\ bif (U.aN
 (U.cZ (bif decide ((U.ah (List.take ((↑b.length : Int).toNat.sub (32 : Nat)) (List.drop (32 : Nat) b), (0 : Int))).1 < (1 : Int)) then true else decide ((U.ah (List.take ((↑b.length : Int).toNat.sub (32 : Nat)) (List.drop (32 : Nat) b), (0 : Int))).1 > (1099511627776 : Int))) (U.ah (List.take ((↑b.length : Int).toNat.sub (32 : Nat)) (List.drop (32 : Nat) b), (0 : Int))).2).1).2 != (0 :
 Int) then [(0 : Int), (0 : Int), (0 : Int), (0 : Int), (0 : Int), (0 : Int), (0 : Int), (0 : Int), (0 : Int), (0 : Int), (0 : Int), (0 : Int), (0 : Int), (0 : Int), (0 : Int), (0 : Int), (0 : Int), (0 : Int), (0 : Int), (0 : Int), (0 : Int), (0 : Int), (0 : Int), (0 : Int), (0 : Int), (0 : Int), (0 : Int), (0 : Int), (0 : Int), (0 : Int), (0 : Int), (0 : Int)] = (U.ak b).1.1 /\ (0 : Int) =
 (U.ak b).1.2 /\ (0 : Int) = (U.ak b).2.1.1 /\ (0 : Int) = (U.ak b).2.1.2.1 /\ [] = (U.ak b).2.1.2.2.1 /\ [] = (U.ak b).2.1.2.2.2.1 /\ [] = (U.ak b).2.1.2.2.2.2.1 /\ [] = (U.ak b).2.1.2.2.2.2.2.1 /\ (0 : Int) = (U.ak b).2.1.2.2.2.2.2.2.1 /\ (0 : Int) = (U.ak b).2.1.2.2.2.2.2.2.2.1 /\ (0 : Int) = (U.ak b).2.1.2.2.2.2.2.2.2.2.1 /\ (0 : Int) = (U.ak
 b).2.1.2.2.2.2.2.2.2.2.2.1 /\ [] = (U.ak b).2.1.2.2.2.2.2.2.2.2.2.2 /\ (U.aN (U.cZ (bif decide ((U.ah (List.take ((↑b.length : Int).toNat.sub (32 : Nat)) (List.drop (32 : Nat) b), (0 : Int))).1 < (1 : Int)) then true else decide ((U.ah (List.take ((↑b.length : Int).toNat.sub (32 : Nat)) (List.drop (32 : Nat) b), (0 : Int))).1 > (1099511627776 : Int))) (U.ah (List.take ((↑b.length :
 Int).toNat.sub (32 : Nat)) (List.drop (32 : Nat) b), (0 : Int))).2).1).2 = (U.ak b).2.2 /\ True else ∃ (x0 : List Int × (Event) × Int × Int), (U.jU b [(0 : Int), (0 : Int), (0 : Int), (0 : Int), (0 : Int), (0 : Int), (0 : Int), (0 : Int), (0 : Int), (0 : Int), (0 : Int), (0 : Int), (0 : Int), (0 : Int), (0 : Int), (0 : Int), (0 : Int), (0 : Int), (0 : Int), (0 : Int), (0 : Int), (0
 : Int), (0 : Int), (0 : Int), (0 : Int), (0 : Int), (0 : Int), (0 : Int), (0 : Int), (0 : Int), (0 : Int), (0 : Int)] (U.aN (U.cZ (bif decide ((U.ah (List.take ((↑b.length : Int).toNat.sub (32 : Nat)) (List.drop (32 : Nat) b), (0 : Int))).1 < (1 : Int)) then true else decide ((U.ah (List.take ((↑b.length : Int).toNat.sub (32 : Nat)) (List.drop (32 : Nat) b), (0 : Int))).1 > (1099511627776
 : Int))) (U.ah (List.take ((↑b.length : Int).toNat.sub (32 : Nat)) (List.drop (32 : Nat) b), (0 : Int))).2).1).1 (IntKind.i64.wrap ((U.ah (List.take ((↑b.length : Int).toNat.sub (32 : Nat)) (List.drop (32 : Nat) b), (0 : Int))).1.sub (1 : Int))) (0 : Int) = U.jU b x0.1 x0.2.1 x0.2.2.1 x0.2.2.2 /\ U.wF b x0.1 x0.2.1 x0.2.2.1 x0.2.2.2) /\ ∀ (x : List Int × (Event) × Int ×
 Int), U.wF b x.1 x.2.1 x.2.2.1 x.2.2.2 -> bif decide (x.2.2.2 < (32 : Int)) then (0 : Int) <= x.2.2.2 /\ x.2.2.2 < (↑b.length : Int) /\ (0 : Int) <= x.2.2.2 /\ x.2.2.2 < (↑(32 : Nat) : Int) /\ x.2.2.2.toNat < (32 : Nat) /\ ∃ (y : List Int × (Event) × Int × Int), U.jU b (x.1.set x.2.2.2.toNat (b.getD x.2.2.2.toNat (0 : Int))) x.2.1 x.2.2.1 (IntKind.i64.wrap (x.2.2.2.add (1 : Int)))
 = U.jU b y.1 y.2.1 y.2.2.1 y.2.2.2 /\ U.wF b y.1 y.2.1 y.2.2.1 y.2.2.2 /\ (Int.sub (32 : Int) y.2.2.2).toNat < (Int.sub (32 : Int) x.2.2.2).toNat else x.1 = (U.ak b).1.1 /\ x.2.2.1 = (U.ak b).1.2 /\ x.2.1.1 = (U.ak b).2.1.1 /\ x.2.1.2.1 = (U.ak b).2.1.2.1 /\ x.2.1.2.2.1 = (U.ak b).2.1.2.2.1 /\ x.2.1.2.2.2.1 = (U.ak b).2.1.2.2.2.1 /\ x.2.1.2.2.2.2.1 =
 (U.ak b).2.1.2.2.2.2.1 /\ x.2.1.2.2.2.2.2.1 = (U.ak b).2.1.2.2.2.2.2.1 /\ x.2.1.2.2.2.2.2.2.1 = (U.ak b).2.1.2.2.2.2.2.2.1 /\ x.2.1.2.2.2.2.2.2.2.1 = (U.ak b).2.1.2.2.2.2.2.2.2.1 /\ x.2.1.2.2.2.2.2.2.2.2.1 = (U.ak b).2.1.2.2.2.2.2.2.2.2.1 /\ x.2.1.2.2.2.2.2.2.2.2.2.1 = (U.ak b).2.1.2.2.2.2.2.2.2.2.2.1 /\ x.2.1.2.2.2.2.2.2.2.2.2.2 = (U.ak b).2.1.2.2.2.2.2.2.2.2.2.2 /\ (0
 : Int) = (U.ak b).2.2 /\ True
def JA (c : Chain) (b : List Int) : Prop := b.length <= (1000000000 : Nat) /\ bif (U.ak b).2.2 != (0 : Int) then [(0 : Int), (0 : Int), (0 : Int), (0 : Int), (0 : Int), (0 : Int), (0 : Int), (0 : Int), (0 : Int), (0 : Int), (0 : Int), (0 : Int), (0 : Int), (0 : Int), (0 : Int), (0 : Int), (0 : Int), (0 : Int), (0 : Int), (0 : Int), (0 : Int), (0 : Int), (0 : Int), (0 : Int), (0 : Int),
 (0 : Int), (0 : Int), (0 : Int), (0 : Int), (0 : Int), (0 : Int), (0 : Int)] = (U.aC c b).1.1 /\ (0 : Int) = (U.aC c b).1.2 /\ (0 : Int) = (U.aC c b).2.1.1 /\ (0 : Int) = (U.aC c b).2.1.2.1 /\ [] = (U.aC c b).2.1.2.2.1 /\ [] = (U.aC c b).2.1.2.2.2.1 /\ [] = (U.aC c b).2.1.2.2.2.2.1 /\ [] = (U.aC c b).2.1.2.2.2.2.2.1 /\ (0 : Int) = (U.aC c b).2.1.2.2.2.2.2.2.1 /\
 (0 : Int) = (U.aC c b).2.1.2.2.2.2.2.2.2.1 /\ (0 : Int) = (U.aC c b).2.1.2.2.2.2.2.2.2.2.1 /\ (0 : Int) = (U.aC c b).2.1.2.2.2.2.2.2.2.2.2.1 /\ [] = (U.aC c b).2.1.2.2.2.2.2.2.2.2.2.2 /\ (U.ak b).2.2 = (U.aC c b).2.2 /\ True else bif !((U.ak b).1.1.beq c.1 && (decide ((U.ak b).1.2 = c.2) && true)) then [(0 : Int), (0 : Int), (0 : Int), (0 : Int), (0 : Int), (0 :
 Int), (0 : Int), (0 : Int), (0 : Int), (0 : Int), (0 : Int), (0 : Int), (0 : Int), (0 : Int), (0 : Int), (0 : Int), (0 : Int), (0 : Int), (0 : Int), (0 : Int), (0 : Int), (0 : Int), (0 : Int), (0 : Int), (0 : Int), (0 : Int), (0 : Int), (0 : Int), (0 : Int), (0 : Int), (0 : Int), (0 : Int)] = (U.aC c b).1.1 /\ (0 : Int) = (U.aC c b).1.2 /\ (0 : Int) = (U.aC c b).2.1.1 /\ (0 : Int) =
 (U.aC c b).2.1.2.1 /\ [] = (U.aC c b).2.1.2.2.1 /\ [] = (U.aC c b).2.1.2.2.2.1 /\ [] = (U.aC c b).2.1.2.2.2.2.1 /\ [] = (U.aC c b).2.1.2.2.2.2.2.1 /\ (0 : Int) = (U.aC c b).2.1.2.2.2.2.2.2.1 /\ (0 : Int) = (U.aC c b).2.1.2.2.2.2.2.2.2.1 /\ (0 : Int) = (U.aC c b).2.1.2.2.2.2.2.2.2.2.1 /\ (0 : Int) = (U.aC c b).2.1.2.2.2.2.2.2.2.2.2.1 /\ [] = (U.aC c
 b).2.1.2.2.2.2.2.2.2.2.2.2 /\ (11 : Int) = (U.aC c b).2.2 /\ True else b.length <= (1000000000000 : Nat) /\ U.qL (U.yt b) = (U.aC c b).1.1 /\ IntKind.i64.wrap (c.2.add (1 : Int)) = (U.aC c b).1.2 /\ (U.ak b).2.1.1 = (U.aC c b).2.1.1 /\ (U.ak b).2.1.2.1 = (U.aC c b).2.1.2.1 /\ (U.ak b).2.1.2.2.1 = (U.aC c b).2.1.2.2.1 /\ (U.ak b).2.1.2.2.2.1 =
 (U.aC c b).2.1.2.2.2.1 /\ (U.ak b).2.1.2.2.2.2.1 = (U.aC c b).2.1.2.2.2.2.1 /\ (U.ak b).2.1.2.2.2.2.2.1 = (U.aC c b).2.1.2.2.2.2.2.1 /\ (U.ak b).2.1.2.2.2.2.2.2.1 = (U.aC c b).2.1.2.2.2.2.2.2.1 /\ (U.ak b).2.1.2.2.2.2.2.2.2.1 = (U.aC c b).2.1.2.2.2.2.2.2.2.1 /\ (U.ak b).2.1.2.2.2.2.2.2.2.2.1 = (U.aC c b).2.1.2.2.2.2.2.2.2.2.1 /\ (U.ak
 b).2.1.2.2.2.2.2.2.2.2.2.1 = (U.aC c b).2.1.2.2.2.2.2.2.2.2.2.1 /\ (U.ak b).2.1.2.2.2.2.2.2.2.2.2.2 = (U.aC c b).2.1.2.2.2.2.2.2.2.2.2.2 /\ (0 : Int) = (U.aC c b).2.2 /\ True
end Go.Proofs.YtkhdeldobekciaaGreatDoor
set_option linter.unusedSimpArgs false
set_option linter.unusedVariables false
set_option maxRecDepth 100000
namespace Go.Proofs.YtkhdeldobekciaaGreatDoor
open Go.Vc
open Go.Vc.T
theorem aal (c : Chain) : CZ c := by
 unfold CZ U.pR; rw [bY]; exact ⟨rfl, trivial⟩
theorem aam (c : Chain) (b : List Int) (h : b.length <= 1000000000000) : MO c b := ⟨h, rfl, rfl, trivial⟩
theorem akE {e : Event} (h : U.bV e = true) : (U.Aw e).length <= 50000 := by rw [<- akw]; exact akt h 9
theorem Wv {c : Chain} {e : Event} (h : (!(U.bV e) || !(U.pR c)) = true) : U.bM c e = ([], U.nT, 1) := by unfold U.bM; rw [h]; rfl
theorem afa {c : Chain} {e : Event} (h1 : U.bV e = true) (h2 : U.pR c = true) (h : c.2 = 1099511627776) : U.bM c e = ([], U.nT, 15) := by unfold U.bM; rw [h1, h2, decide_eq_true h]; rfl
theorem aiQ {c : Chain} {e : Event} (h1 : U.bV e = true) (h2 : U.pR c = true) (h : ¬ c.2 = 1099511627776) : U.bM c e = (U.TJ c e, U.lF c (U.TJ c e), 0) := by unfold U.bM; rw [h1, h2, decide_eq_false h]; rfl
theorem chR {c : Chain} (h : U.pR c = true) : 0 <= c.2 /\ c.2 <= 1099511627776 := by
 unfold U.pR at h; simpa using h
theorem akF {c : Chain} {e : Event} (hl : c.1.length = 32) : (U.TJ c e).length = 40 + (U.Aw e).length := by
 unfold U.TJ; rw [List.length_append, List.length_append, gV, hl]; omega
theorem afb {α : Type} (l : List α) {k : Nat} (h : l.length <= k) : l.take k = l := List.take_of_length_le h
theorem PW {b : List Int} (h : b.length < 32) : U.ak b = (U.nT, U.zeroE, 2) := by unfold U.ak; rw [decide_eq_true h]; rfl
theorem TS {b : List Int} (h : ¬ b.length < 32) (h2 : ¬ (U.dP b).2.2 = 0) : U.ak b = (U.nT, U.zeroE, (U.dP b).2.2) := by unfold U.ak; rw [decide_eq_false h, decide_eq_false h2]; rfl
theorem Zd {b : List Int} (h : ¬ b.length < 32) (h2 : (U.dP b).2.2 = 0) (h3 : ¬ (U.aN (b.drop 40)).2 = 0) : U.ak b = (U.nT, U.zeroE, (U.aN (b.drop 40)).2) := by unfold U.ak; rw [decide_eq_false h, decide_eq_true h2, decide_eq_false h3]; rfl
theorem Ze {b : List Int} (h : ¬ b.length < 32) (h2 : (U.dP b).2.2 = 0) (h3 : (U.aN (b.drop 40)).2 = 0) : U.ak b = ((b.take 32, (U.dP b).1 - 1), (U.aN (b.drop 40)).1, 0) := by unfold U.ak; rw [decide_eq_false h, decide_eq_true h2, decide_eq_true h3]; rfl
theorem Zf {b : List Int} (h : ¬ b.length < 32) (h2 : (U.dP b).2.2 = 0) : 40 <= b.length /\ (U.dP b).2.1 = b.drop 40 /\ 1 <= (U.dP b).1 /\ (U.dP b).1 <= 1099511627776 := by
 have hd : (b.drop 32).drop 8 = b.drop 40 := by rw [List.drop_drop]
 have hl : (b.drop 32).length = b.length - 32 := List.length_drop
 unfold U.dP U.cZ at *
 simp only [] at *
 unfold U.ah at *
 simp only [decide_true, cond_true] at *
 by_cases h8 : (b.drop 32).length < 8
 ·rw [decide_eq_true h8] at h2; simp at h2
 ·rw [decide_eq_false h8] at h2 ⊢
  simp only [cond_false] at h2 ⊢
  by_cases hv : U.aj ((b.drop 32).take 8) > 4611686018427387904
  ·rw [decide_eq_true hv] at h2; simp at h2
  ·rw [decide_eq_false hv] at h2 ⊢
   simp only [cond_false, decide_true, Bool.true_and] at h2 ⊢
   cases hb : (decide (U.aj ((b.drop 32).take 8) < 1) || decide (U.aj ((b.drop 32).take 8) > 1099511627776)) with
   | true => rw [hb] at h2; simp at h2
   | false =>
     simp only [Bool.or_eq_false_iff, decide_eq_false_iff_not] at hb
     simp only [cond_false]
     exact ⟨by omega, hd, by omega, by omega⟩
theorem ag9 (b : List Int) (k : Nat) : List.take ((b.length : Int).toNat.sub k) (List.drop k b) = b.drop k := NY b k
theorem acf (c : Chain) (e : Event) (hv : qR [dH, dA] (c, e)) (h1 : (U.dG e).length <= 1000000000000) (h2 : (U.eTo e).length <= 1000000000000) : FV c e := by
 unfold FV
 have hl : c.1.length = 32 := hv.1.1.2
 refine ⟨h1, h2, ?_⟩
 rw [dZ]
 cases hr : U.bV e with
 | false => rw [ajx hr, Wv (by rw [hr]; rfl)]; exact ⟨rfl, rfl, rfl, rfl, trivial⟩
 | true =>
   rw [ajw hr]
   cases hc : U.pR c with
   | false => rw [Wv (by rw [hc]; simp)]; exact ⟨rfl, rfl, rfl, rfl, trivial⟩
   | true =>
     obtain ⟨hc0, hc1⟩ := chR hc
     by_cases hm : c.2 = 1099511627776
     ·rw [decide_eq_true hm, afa hr hc hm]; exact ⟨rfl, rfl, rfl, rfl, trivial⟩
     ·rw [decide_eq_false hm, aiQ hr hc hm]
      have hle := akE hr
      have hB : ((List.take ((↑(32 : Nat) : Int).toNat.sub 0) (List.drop 0 c.1)).append (U.nums ([(0 : Int)].set 0 (IntKind.i64.wrap (c.2.add 1))))).append ((U.Aw e).append []) = U.TJ c e := by
       rw [show List.take ((↑(32 : Nat) : Int).toNat.sub 0) (List.drop 0 c.1) = c.1 from afb c.1 (Nat.le_of_eq hl)]
       unfold U.TJ
       rw [bf, dw (x := c.2 + 1) (by omega) (by omega)]
       simp only [dJ, List.append_nil, List.append_assoc]
       congr 2
       show U.nums [c.2 + 1] = _
       simp [U.nums]
      have hlen := akF (c := c) (e := e) hl
      show (0 : Int) <= 0 /\ _
      rw [hB]
      refine ⟨by omega, by omega, by omega, ?_, by omega, by omega, by omega, rfl, rfl, rfl, rfl, trivial⟩
      rw [show List.take ((↑(32 : Nat) : Int).toNat.sub 0) (List.drop 0 c.1) = c.1 from afb c.1 (Nat.le_of_eq hl)]; omega
theorem acg (b : List Int) (hb : ∀ x ∈ b, Valid (.int .u8) x) (hl : b.length <= 1000000000) : FW b := by
 unfold FW
 simp only [ag9]
 by_cases h32 : b.length < 32
 ·rw [decide_eq_true (by omega : (b.length : Int) < 32), PW h32]; (repeat' apply And.intro) <;> first | rfl | trivial
 ·rw [decide_eq_false (by omega : ¬ (b.length : Int) < 32)]
  refine ⟨by omega, by omega, by omega, ?_⟩
  rw [dZ]
  show bif (U.dP b).2.2 != 0 then _ else _
  by_cases h0 : (U.dP b).2.2 = 0
  ·obtain ⟨g1, g2, g3, g4⟩ := Zf h32 h0
   rw [h0]
   show (0 : Int) <= 40 /\ _
   refine ⟨by omega, by omega, by omega, by rw [List.length_drop]; omega, ?_⟩
   by_cases hd : (U.aN (b.drop 40)).2 = 0
   ·rw [hd, Ze h32 h0 hd]
    have hw : IntKind.i64.wrap ((U.ah (b.drop 32, 0)).1.sub 1) = (U.dP b).1 - 1 := dw (x := (U.dP b).1 - 1) (by omega) (by omega)
    rw [hw]
    refine ⟨by omega, rfl, rfl, ?_⟩
    (repeat' apply And.intro) <;> first | rfl | trivial
   ·rw [Zd h32 h0 hd, show ((U.aN (b.drop 40)).2 != 0) = true from bne_iff_ne.2 hd]
    (repeat' apply And.intro) <;> first | rfl | trivial
  ·rw [TS h32 h0, show ((U.dP b).2.2 != 0) = true from bne_iff_ne.2 h0]
   (repeat' apply And.intro) <;> first | rfl | trivial
theorem Wx {c : Chain} {b : List Int} (h : ¬ (U.ak b).2.2 = 0) : U.aC c b = (U.nT, U.zeroE, (U.ak b).2.2) := by unfold U.aC; rw [decide_eq_false h]; rfl
theorem Zg {c : Chain} {b : List Int} (h : (U.ak b).2.2 = 0) (h2 : ¬ (U.ak b).1 = c) : U.aC c b = (U.nT, U.zeroE, 11) := by unfold U.aC; rw [decide_eq_true h, decide_eq_false h2]; rfl
theorem Zh {c : Chain} {b : List Int} (h : (U.ak b).2.2 = 0) (h2 : (U.ak b).1 = c) : U.aC c b = (U.lF c b, (U.ak b).2.1, 0) := by unfold U.aC; rw [decide_eq_true h, decide_eq_true h2]; rfl
theorem aa1 (x c : Chain) : (x.1.beq c.1 && (decide (x.2 = c.2) && true)) = decide (x = c) := by
 rw [ag5, Bool.eq_iff_iff]
 simp only [Bool.and_true, Bool.and_eq_true, decide_eq_true_eq]
 constructor
 ·rintro ⟨h1, h2⟩; exact Prod.ext h1 h2
 ·rintro rfl; exact ⟨rfl, rfl⟩
theorem ach (c : Chain) (b : List Int) (hv : qR [dH, aI] (c, b)) (hl : b.length <= 1000000000) : FX c b := by
 unfold FX
 refine ⟨hl, ?_⟩
 rw [aa1]
 by_cases h0 : (U.ak b).2.2 = 0
 ·rw [h0]
  by_cases he : (U.ak b).1 = c
  ·rw [decide_eq_true he, Zh h0 he]
   show b.length <= 1000000000000 /\ _
   refine ⟨by omega, ?_⟩
   (repeat' apply And.intro) <;> first | rfl | trivial
  ·rw [decide_eq_false he, Zg h0 he]
   (repeat' apply And.intro) <;> first | rfl | trivial
 ·rw [Wx h0, show ((U.ak b).2.2 != 0) = true from bne_iff_ne.2 h0]
  (repeat' apply And.intro) <;> first | rfl | trivial
theorem akG : U.ET = zh := by unfold U.ET; decide +kernel
theorem ajO : U.consts = J3 := by unfold U.consts; decide +kernel
theorem MP (a b : Int) : U.dM a b = ((BitVec.ofInt 32 a ^^^ BitVec.ofInt 32 b).toNat : Int) := by
 show IntKind.wrap .u32 ((BitVec.ofInt 32 a ^^^ BitVec.ofInt 32 b).toNat : Int) = _
 rw [wrap_u32]; have := (BitVec.ofInt 32 a ^^^ BitVec.ofInt 32 b).isLt; omega
theorem JB (a b : Int) : U.fJ a b = ((BitVec.ofInt 32 a &&& BitVec.ofInt 32 b).toNat : Int) := by
 show IntKind.wrap .u32 ((BitVec.ofInt 32 a &&& BitVec.ofInt 32 b).toNat : Int) = _
 rw [wrap_u32]; have := (BitVec.ofInt 32 a &&& BitVec.ofInt 32 b).isLt; omega
theorem akW (a b : Int) : U.Xj a b = ((BitVec.ofInt 32 a ||| BitVec.ofInt 32 b).toNat : Int) := by
 show IntKind.wrap .u32 ((BitVec.ofInt 32 a ||| BitVec.ofInt 32 b).toNat : Int) = _
 rw [wrap_u32]; have := (BitVec.ofInt 32 a ||| BitVec.ofInt 32 b).isLt; omega
theorem aha (x : BitVec 32) : BitVec.ofInt 32 (x.toNat : Int) = x := by rw [BitVec.ofInt_natCast, BitVec.ofNat_toNat, BitVec.setWidth_eq]
theorem alk : BitVec.ofInt 32 4294967295 = BitVec.allOnes 32 := by decide +kernel
theorem amm (e f g : Int) : U.dM g (U.fJ e (U.dM f g)) = U.dM (U.fJ e f) (U.fJ (U.aiw e) g) := by
 show _ = U.dM (U.fJ e f) (U.fJ (U.dM 4294967295 e) g)
 rw [MP g, JB e (U.dM f g), MP f g, MP (U.fJ e f), JB e f, JB _ g, MP 4294967295 e, alk]
 simp only [aha]
 congr 2
 refine BitVec.eq_of_getLsbD_eq fun i hi => ?_
 simp only [BitVec.getLsbD_xor, BitVec.getLsbD_and, BitVec.getLsbD_allOnes, hi, decide_true]
 cases (BitVec.ofInt 32 e).getLsbD i <;> cases (BitVec.ofInt 32 f).getLsbD i <;> cases (BitVec.ofInt 32 g).getLsbD i <;> rfl
theorem al3 (a b c : Int) : U.Xj (U.fJ a b) (U.fJ c (U.Xj a b)) = U.dM (U.dM (U.fJ a b) (U.fJ a c)) (U.fJ b c) := by
 rw [akW (U.fJ a b), JB c, akW a b, MP (U.dM _ _), MP (U.fJ a b), JB a b, JB a c, JB b c]
 simp only [aha]
 congr 2
 refine BitVec.eq_of_getLsbD_eq fun i hi => ?_
 simp only [BitVec.getLsbD_xor, BitVec.getLsbD_and, BitVec.getLsbD_or]
 cases (BitVec.ofInt 32 a).getLsbD i <;> cases (BitVec.ofInt 32 b).getLsbD i <;> cases (BitVec.ofInt 32 c).getLsbD i <;> rfl
theorem al4 {x : Int} (h : 0 <= x /\ x <= 4294967295) : U.right x 6 = U.rot x 6 := by
 have e1 : T.Ce .u64 (IntKind.wrap .u64 (IntKind.wrap .i64 (Int.sub 0 6))) 31 = 26 := by decide +kernel
 have e2 : U.shl .u32 x 26 = 2 ^ 26 * (x % 64) := by
  show IntKind.wrap .u32 (x * 67108864) = _
  rw [wrap_u32]; omega
 have e3 : U.shr .u32 x 6 = x / 64 := by
  show Int.fdiv x 64 = _
  rw [Int.fdiv_eq_ediv_of_nonneg _ (by omega)]
 unfold U.right U.rotl
 simp only [e1]
 show T.orK .u32 (U.shl .u32 x 26) (U.shr .u32 x 6) = IntKind.wrap .u32 (U.shr .u32 x 6 + U.shl .u32 x 26)
 rw [e2, e3, iQ 26 (by omega) (by omega) (by omega) (by omega), wrap_u32]; omega
theorem alm {x : Int} (h : 0 <= x /\ x <= 4294967295) : U.right x 11 = U.rot x 11 := by
 have e1 : T.Ce .u64 (IntKind.wrap .u64 (IntKind.wrap .i64 (Int.sub 0 11))) 31 = 21 := by decide +kernel
 have e2 : U.shl .u32 x 21 = 2 ^ 21 * (x % 2048) := by
  show IntKind.wrap .u32 (x * 2097152) = _
  rw [wrap_u32]; omega
 have e3 : U.shr .u32 x 11 = x / 2048 := by
  show Int.fdiv x 2048 = _
  rw [Int.fdiv_eq_ediv_of_nonneg _ (by omega)]
 unfold U.right U.rotl
 simp only [e1]
 show T.orK .u32 (U.shl .u32 x 21) (U.shr .u32 x 11) = IntKind.wrap .u32 (U.shr .u32 x 11 + U.shl .u32 x 21)
 rw [e2, e3, iQ 21 (by omega) (by omega) (by omega) (by omega), wrap_u32]; omega
theorem aln {x : Int} (h : 0 <= x /\ x <= 4294967295) : U.right x 25 = U.rot x 25 := by
 have e1 : T.Ce .u64 (IntKind.wrap .u64 (IntKind.wrap .i64 (Int.sub 0 25))) 31 = 7 := by decide +kernel
 have e2 : U.shl .u32 x 7 = 2 ^ 7 * (x % 33554432) := by
  show IntKind.wrap .u32 (x * 128) = _
  rw [wrap_u32]; omega
 have e3 : U.shr .u32 x 25 = x / 33554432 := by
  show Int.fdiv x 33554432 = _
  rw [Int.fdiv_eq_ediv_of_nonneg _ (by omega)]
 unfold U.right U.rotl
 simp only [e1]
 show T.orK .u32 (U.shl .u32 x 7) (U.shr .u32 x 25) = IntKind.wrap .u32 (U.shr .u32 x 25 + U.shl .u32 x 7)
 rw [e2, e3, iQ 7 (by omega) (by omega) (by omega) (by omega), wrap_u32]; omega
theorem al5 {x : Int} (h : 0 <= x /\ x <= 4294967295) : U.right x 2 = U.rot x 2 := by
 have e1 : T.Ce .u64 (IntKind.wrap .u64 (IntKind.wrap .i64 (Int.sub 0 2))) 31 = 30 := by decide +kernel
 have e2 : U.shl .u32 x 30 = 2 ^ 30 * (x % 4) := by
  show IntKind.wrap .u32 (x * 1073741824) = _
  rw [wrap_u32]; omega
 have e3 : U.shr .u32 x 2 = x / 4 := by
  show Int.fdiv x 4 = _
  rw [Int.fdiv_eq_ediv_of_nonneg _ (by omega)]
 unfold U.right U.rotl
 simp only [e1]
 show T.orK .u32 (U.shl .u32 x 30) (U.shr .u32 x 2) = IntKind.wrap .u32 (U.shr .u32 x 2 + U.shl .u32 x 30)
 rw [e2, e3, iQ 30 (by omega) (by omega) (by omega) (by omega), wrap_u32]; omega
theorem alo {x : Int} (h : 0 <= x /\ x <= 4294967295) : U.right x 13 = U.rot x 13 := by
 have e1 : T.Ce .u64 (IntKind.wrap .u64 (IntKind.wrap .i64 (Int.sub 0 13))) 31 = 19 := by decide +kernel
 have e2 : U.shl .u32 x 19 = 2 ^ 19 * (x % 8192) := by
  show IntKind.wrap .u32 (x * 524288) = _
  rw [wrap_u32]; omega
 have e3 : U.shr .u32 x 13 = x / 8192 := by
  show Int.fdiv x 8192 = _
  rw [Int.fdiv_eq_ediv_of_nonneg _ (by omega)]
 unfold U.right U.rotl
 simp only [e1]
 show T.orK .u32 (U.shl .u32 x 19) (U.shr .u32 x 13) = IntKind.wrap .u32 (U.shr .u32 x 13 + U.shl .u32 x 19)
 rw [e2, e3, iQ 19 (by omega) (by omega) (by omega) (by omega), wrap_u32]; omega
theorem alp {x : Int} (h : 0 <= x /\ x <= 4294967295) : U.right x 22 = U.rot x 22 := by
 have e1 : T.Ce .u64 (IntKind.wrap .u64 (IntKind.wrap .i64 (Int.sub 0 22))) 31 = 10 := by decide +kernel
 have e2 : U.shl .u32 x 10 = 2 ^ 10 * (x % 4194304) := by
  show IntKind.wrap .u32 (x * 1024) = _
  rw [wrap_u32]; omega
 have e3 : U.shr .u32 x 22 = x / 4194304 := by
  show Int.fdiv x 4194304 = _
  rw [Int.fdiv_eq_ediv_of_nonneg _ (by omega)]
 unfold U.right U.rotl
 simp only [e1]
 show T.orK .u32 (U.shl .u32 x 10) (U.shr .u32 x 22) = IntKind.wrap .u32 (U.shr .u32 x 22 + U.shl .u32 x 10)
 rw [e2, e3, iQ 10 (by omega) (by omega) (by omega) (by omega), wrap_u32]; omega
theorem al6 {x : Int} (h : 0 <= x /\ x <= 4294967295) : U.right x 7 = U.rot x 7 := by
 have e1 : T.Ce .u64 (IntKind.wrap .u64 (IntKind.wrap .i64 (Int.sub 0 7))) 31 = 25 := by decide +kernel
 have e2 : U.shl .u32 x 25 = 2 ^ 25 * (x % 128) := by
  show IntKind.wrap .u32 (x * 33554432) = _
  rw [wrap_u32]; omega
 have e3 : U.shr .u32 x 7 = x / 128 := by
  show Int.fdiv x 128 = _
  rw [Int.fdiv_eq_ediv_of_nonneg _ (by omega)]
 unfold U.right U.rotl
 simp only [e1]
 show T.orK .u32 (U.shl .u32 x 25) (U.shr .u32 x 7) = IntKind.wrap .u32 (U.shr .u32 x 7 + U.shl .u32 x 25)
 rw [e2, e3, iQ 25 (by omega) (by omega) (by omega) (by omega), wrap_u32]; omega
theorem alq {x : Int} (h : 0 <= x /\ x <= 4294967295) : U.right x 18 = U.rot x 18 := by
 have e1 : T.Ce .u64 (IntKind.wrap .u64 (IntKind.wrap .i64 (Int.sub 0 18))) 31 = 14 := by decide +kernel
 have e2 : U.shl .u32 x 14 = 2 ^ 14 * (x % 262144) := by
  show IntKind.wrap .u32 (x * 16384) = _
  rw [wrap_u32]; omega
 have e3 : U.shr .u32 x 18 = x / 262144 := by
  show Int.fdiv x 262144 = _
  rw [Int.fdiv_eq_ediv_of_nonneg _ (by omega)]
 unfold U.right U.rotl
 simp only [e1]
 show T.orK .u32 (U.shl .u32 x 14) (U.shr .u32 x 18) = IntKind.wrap .u32 (U.shr .u32 x 18 + U.shl .u32 x 14)
 rw [e2, e3, iQ 14 (by omega) (by omega) (by omega) (by omega), wrap_u32]; omega
theorem alr {x : Int} (h : 0 <= x /\ x <= 4294967295) : U.right x 17 = U.rot x 17 := by
 have e1 : T.Ce .u64 (IntKind.wrap .u64 (IntKind.wrap .i64 (Int.sub 0 17))) 31 = 15 := by decide +kernel
 have e2 : U.shl .u32 x 15 = 2 ^ 15 * (x % 131072) := by
  show IntKind.wrap .u32 (x * 32768) = _
  rw [wrap_u32]; omega
 have e3 : U.shr .u32 x 17 = x / 131072 := by
  show Int.fdiv x 131072 = _
  rw [Int.fdiv_eq_ediv_of_nonneg _ (by omega)]
 unfold U.right U.rotl
 simp only [e1]
 show T.orK .u32 (U.shl .u32 x 15) (U.shr .u32 x 17) = IntKind.wrap .u32 (U.shr .u32 x 17 + U.shl .u32 x 15)
 rw [e2, e3, iQ 15 (by omega) (by omega) (by omega) (by omega), wrap_u32]; omega
theorem als {x : Int} (h : 0 <= x /\ x <= 4294967295) : U.right x 19 = U.rot x 19 := by
 have e1 : T.Ce .u64 (IntKind.wrap .u64 (IntKind.wrap .i64 (Int.sub 0 19))) 31 = 13 := by decide +kernel
 have e2 : U.shl .u32 x 13 = 2 ^ 13 * (x % 524288) := by
  show IntKind.wrap .u32 (x * 8192) = _
  rw [wrap_u32]; omega
 have e3 : U.shr .u32 x 19 = x / 524288 := by
  show Int.fdiv x 524288 = _
  rw [Int.fdiv_eq_ediv_of_nonneg _ (by omega)]
 unfold U.right U.rotl
 simp only [e1]
 show T.orK .u32 (U.shl .u32 x 13) (U.shr .u32 x 19) = IntKind.wrap .u32 (U.shr .u32 x 19 + U.shl .u32 x 13)
 rw [e2, e3, iQ 13 (by omega) (by omega) (by omega) (by omega), wrap_u32]; omega
theorem UN (a b : Int) : 0 <= U.add32 a b /\ U.add32 a b <= 4294967295 := by unfold U.add32; rw [wrap_u32, bf]; omega
theorem ajP (b : List Int) (n i : Nat) : (b.drop n).getD i 0 = b.getD (n + i) 0 := by
 rw [List.getD_eq_getElem?_getD, List.getD_eq_getElem?_getD, List.getElem?_drop]
theorem ahb {b : List Int} (hb : ∀ x ∈ b, Valid (.int .u8) x) (t : Nat) : U.wp b t 4 = U.word (b.drop (4 * t)) /\ 0 <= U.wp b t 4 /\ U.wp b t 4 <= 4294967295 := by
 have h0 := Ku hb (4 * t + 0)
 have h1 := Ku hb (4 * t + 1)
 have h2 := Ku hb (4 * t + 2)
 have h3 := Ku hb (4 * t + 3)
 unfold U.word
 simp only [ajP, U.wp, U.add32, wrap_u32, bf, eX]
 generalize b.getD (4 * t + 0) 0 = x0 at *
 generalize b.getD (4 * t + 1) 0 = x1 at *
 generalize b.getD (4 * t + 2) 0 = x2 at *
 generalize b.getD (4 * t + 3) 0 = x3 at *
 omega
def C9 (l : List Int) : Prop := ∀ x ∈ l, 0 <= x /\ x <= 4294967295
theorem C9.at {l : List Int} (h : C9 l) (i : Nat) : 0 <= l.getD i 0 /\ l.getD i 0 <= 4294967295 := by
 by_cases hi : i < l.length
 ·rw [getD_at hi]; exact h _ (List.getElem_mem hi)
 ·rw [List.getD_eq_getElem?_getD, List.getElem?_eq_none (by omega)]; simp
theorem akH {l : List Int} (h : C9 l) : U.UM l = U.YV l := by
 unfold U.UM U.YV U.s0 U.s1
 rw [alr (h.at _), als (h.at _), al6 (h.at _), alq (h.at _)]
 simp only [U.add32, wrap_u32, bf]; omega
theorem afc {b : List Int} (hb : ∀ x ∈ b, Valid (.int .u8) x) : ∀ k, U.jR b k = U.rC b k /\ C9 (U.jR b k)
 | 0 => by
   refine ⟨?_, ?_⟩
   ·show U.wS b 16 = U.pq b 16
    unfold U.wS U.pq
    exact List.map_congr_left fun t _ => (ahb hb t).1
   ·intro x hx
    obtain ⟨t, _, rfl⟩ := List.mem_map.1 (show x ∈ (List.range 16).map fun t => U.wp b t 4 from hx)
    exact (ahb hb t).2
 | k + 1 => by
   obtain ⟨h1, h2⟩ := afc hb k
   refine ⟨by rw [U.jR, U.rC, akH h2, h1], ?_⟩
   intro x hx
   rw [U.jR, List.mem_append] at hx
   rcases hx with hx | hx
   ·exact h2 x hx
   ·rw [List.mem_singleton] at hx; subst hx; unfold U.UM; exact UN _ _
theorem al7 (k w : Int) (s : U.St8) (h : C9 (U.ls8 s)) : U.al2 k w (U.ls8 s) = U.ls8 (U.rnd k w s) := by
 obtain ⟨a, b, c, d, e, f, g, i⟩ := s
 have ha : 0 <= a /\ a <= 4294967295 := h a (by simp [U.ls8])
 have he : 0 <= e /\ e <= 4294967295 := h e (by simp [U.ls8])
 have h1 : U.rt1 k w [a, b, c, d, e, f, g, i] = U.one k w (a, b, c, d, e, f, g, i) := by
  show U.add32 (U.add32 (U.add32 (U.add32 i (U.dM (U.dM (U.rot e 6) (U.rot e 11)) (U.rot e 25))) (U.dM (U.fJ e f) (U.fJ (U.aiw e) g))) k) w = U.add32 (U.add32 (U.add32 (U.add32 i (U.S1 e)) (U.dM g (U.fJ e (U.dM f g)))) k) w
  rw [amm]; unfold U.S1; rw [al4 he, alm he, aln he]
 have h2 : U.rt2 [a, b, c, d, e, f, g, i] = U.two (a, b, c, d, e, f, g, i) := by
  show U.add32 (U.dM (U.dM (U.rot a 2) (U.rot a 13)) (U.rot a 22)) (U.dM (U.dM (U.fJ a b) (U.fJ a c)) (U.fJ b c)) = U.add32 (U.S0 a) (U.Xj (U.fJ a b) (U.fJ c (U.Xj a b)))
  rw [al3]; unfold U.S0; rw [al5 ha, alo ha, alp ha]
 show [U.add32 (U.rt1 k w [a, b, c, d, e, f, g, i]) (U.rt2 [a, b, c, d, e, f, g, i]), a, b, c, U.add32 d (U.rt1 k w [a, b, c, d, e, f, g, i]), e, f, g] = [U.add32 (U.one k w (a, b, c, d, e, f, g, i)) (U.two (a, b, c, d, e, f, g, i)), a, b, c, U.add32 d (U.one k w (a, b, c, d, e, f, g, i)), e, f, g]
 rw [h1, h2]
theorem amn (k w : Int) (s : U.St8) (h : C9 (U.ls8 s)) : C9 (U.ls8 (U.rnd k w s)) := by
 obtain ⟨a, b, c, d, e, f, g, i⟩ := s
 intro x hx
 have hx : x ∈ [U.add32 (U.one k w (a, b, c, d, e, f, g, i)) (U.two (a, b, c, d, e, f, g, i)), a, b, c, U.add32 d (U.one k w (a, b, c, d, e, f, g, i)), e, f, g] := hx
 have hm : ∀ y ∈ [a, b, c, d, e, f, g, i], 0 <= y /\ y <= 4294967295 := h
 simp only [List.mem_cons, List.not_mem_nil, or_false] at hx hm
 rcases hx with rfl | rfl | rfl | rfl | rfl | rfl | rfl | rfl
 ·exact UN _ _
 ·exact hm _ (by simp)
 ·exact hm _ (by simp)
 ·exact hm _ (by simp)
 ·exact UN _ _
 ·exact hm _ (by simp)
 ·exact hm _ (by simp)
 ·exact hm _ (by simp)
theorem ahc (w : List Int) (s : U.St8) (h : C9 (U.ls8 s)) : ∀ t, U.wE J3 w t (U.ls8 s) = U.ls8 (U.FK w t s) /\ C9 (U.ls8 (U.FK w t s))
 | 0 => ⟨rfl, h⟩
 | t + 1 => by
   obtain ⟨h1, h2⟩ := ahc w s h t
   refine ⟨?_, amn _ _ _ h2⟩
   rw [U.wE, h1]; exact al7 _ _ _ h2
theorem ahd {h : List Int} (h8 : h.length = 8) : U.ls8 (U.st8 h) = h := by
 match h, h8 with
 | [_, _, _, _, _, _, _, _], _ => rfl
theorem afd (f : Int -> Int -> Int) (hf : ∀ a b, f a b = f b a) : ∀ a b : List Int, List.zipWith f a b = List.zipWith f b a
 | [], [] => rfl
 | [], _ :: _ => rfl
 | _ :: _, [] => rfl
 | x :: a, y :: b => by rw [List.zipWith_cons_cons, List.zipWith_cons_cons, hf, afd f hf a b]
theorem step_eq {h b : List Int} (h8 : h.length = 8) (hv : C9 h) (hb : ∀ x ∈ b, Valid (.int .u8) x) : U.DK h b U.consts = U.step h b /\ (U.step h b).length = 8 /\ C9 (U.step h b) := by
 have hs : U.nK b = U.sched b := by unfold U.nK U.sched; exact (afc hb 48).1
 have hr := (ahc (U.sched b) (U.st8 h) (by rw [ahd h8]; exact hv) 64).1
 rw [ahd h8] at hr
 refine ⟨?_, ?_, ?_⟩
 ·unfold U.DK U.step
  rw [ajO, hs, hr]
  exact afd _ (fun a b => by unfold U.add32; rw [bf, bf, Int.add_comm]) _ _
 ·unfold U.step; rw [List.length_zipWith, h8]; rfl
 ·intro x hx
  unfold U.step at hx
  obtain ⟨i, hi, rfl⟩ := List.mem_iff_getElem.1 hx
  rw [List.getElem_zipWith]; exact UN _ _
theorem akI : ∀ k n, ∀ x ∈ U.be8 k n, 0 <= x /\ x <= 255 := by
 intro k n
 induction k with
 | zero => intro x hx; cases hx
 | succ k ih =>
   intro x hx
   rw [U.be8, List.mem_cons] at hx
   rcases hx with rfl | hx
   ·omega
   ·exact ih x hx
theorem amo {b : List Int} (hb : ∀ x ∈ b, Valid (.int .u8) x) : ∀ x ∈ U.pad b, Valid (.int .u8) x := by
 intro x hx
 unfold U.pad at hx
 rw [List.mem_append, List.mem_cons, List.mem_append] at hx
 have hv : 0 <= x /\ x <= 255 -> Valid (.int .u8) x := fun h => ⟨by show (0 : Int) <= x; omega, by show x <= (255 : Int); omega⟩
 rcases hx with hx | rfl | hx | hx
 ·exact hb x hx
 ·exact hv (by omega)
 ·rw [(List.mem_replicate.1 hx).2]; exact ⟨by show (0 : Int) <= 0; omega, by show (0 : Int) <= (255 : Int); omega⟩
 ·exact hv (akI _ _ x hx)
theorem fold_eq : ∀ (cs : List (List Int)) (h : List Int), h.length = 8 -> C9 h -> (∀ c ∈ cs, ∀ x ∈ c, Valid (.int .u8) x) -> cs.foldl (fun h c => U.DK h c U.consts) h = cs.foldl U.step h
 | [], _, _, _, _ => rfl
 | c :: r, h, h8, hv, hc => by
   obtain ⟨e1, e2, e3⟩ := step_eq h8 hv (hc c (List.mem_cons_self ..))
   rw [List.foldl_cons, List.foldl_cons, e1]
   exact fold_eq r _ e2 e3 fun d hd => hc d (List.mem_cons_of_mem _ hd)
theorem alu : C9 zh := by
 have : zh.all (fun x => decide (0 <= x /\ x <= 4294967295)) = true := by decide +kernel
 intro x hx
 have := List.all_eq_true.1 this x hx
 simpa using this
theorem alv {b : List Int} (hb : ∀ x ∈ b, Valid (.int .u8) x) : U.yt b = U.sums b := by
 unfold U.yt U.sums
 rw [akG]
 refine fold_eq _ _ rfl alu fun c hc x hx => ?_
 unfold U.chunks at hc
 obtain ⟨k, _, rfl⟩ := List.mem_map.1 hc
 exact amo hb x (List.mem_of_mem_drop (List.mem_of_mem_take hx))
theorem al8 {b : List Int} (hb : ∀ x ∈ b, Valid (.int .u8) x) : U.qL (U.yt b) = U.sum b := by rw [alv hb]; rfl
theorem afe (b : List Int) (hb : ∀ x ∈ b, Valid (.int .u8) x) (hl : b.length <= 1000000000) : Jz b := by
 unfold Jz
 simp only [ag9]
 by_cases h32 : b.length < 32
 ·rw [decide_eq_true (by omega : (b.length : Int) < 32), PW h32]; (repeat' apply And.intro) <;> first | rfl | trivial
 ·rw [decide_eq_false (by omega : ¬ (b.length : Int) < 32)]
  refine ⟨by omega, by omega, by omega, ?_⟩
  rw [dZ]
  show bif (U.dP b).2.2 != 0 then _ else ((U.dP b).2.1.length <= 1000000000 /\ bif (U.aN (U.dP b).2.1).2 != 0 then _ else ∃ (x0 : List Int × (Event) × Int × Int), (U.jU b _ (U.aN (U.dP b).2.1).1 (IntKind.i64.wrap ((U.dP b).1.sub 1)) 0 = _ /\ _) /\ _)
  by_cases h0 : (U.dP b).2.2 = 0
  ·obtain ⟨g1, g2, g3, g4⟩ := Zf h32 h0
   rw [h0, g2]
   show _ <= 1000000000 /\ _
   refine ⟨by rw [List.length_drop]; omega, ?_⟩
   by_cases hd : (U.aN (b.drop 40)).2 = 0
   ·rw [hd, Ze h32 h0 hd, dF, dw (x := (U.dP b).1 - 1) (by omega) (by omega)]
    refine ⟨(List.replicate 32 0, (U.aN (b.drop 40)).1, (U.dP b).1 - 1, 0), ⟨rfl, Int.le_refl 0, by show (0 : Int) <= 32; omega, by omega, rfl, rfl, rfl, hd, h0⟩, ?_⟩
    rintro ⟨h, e, n, i⟩ ⟨i0, i32, _, hh, hn, hee, _, _⟩
    simp only [] at i0 i32 hh hn hee ⊢
    subst hh hn hee
    by_cases hi : i < 32
    ·rw [decide_eq_true hi, bf, dw (by omega) (by omega)]
     refine ⟨by omega, by omega, by omega, by omega, by omega, (b.take (i + 1).toNat ++ List.replicate (32 - (i + 1).toNat) 0, (U.aN (b.drop 40)).1, (U.dP b).1 - 1, i + 1), ?_, ⟨by show 0 <= i + 1; omega, by show i + 1 <= 32; omega, by omega, rfl, rfl, rfl, hd, h0⟩, by simp only [dF]; omega⟩
     congr 1
     rw [take_at i0 (by omega), getD_at (by omega : i.toNat < b.length)]
     rw [List.set_append_right _ _ (by rw [List.length_take]; omega), List.length_take, show i.toNat - min i.toNat b.length = 0 by omega, show 32 - i.toNat = (32 - (i + 1).toNat) + 1 by omega, List.replicate_succ, List.set_cons_zero, List.append_assoc]; rfl
    ·rw [decide_eq_false hi]
     have : i = 32 := by omega
     subst this
     refine ⟨?_, rfl, ?_⟩
     ·show b.take 32 ++ [] = _; rw [List.append_nil]
     (repeat' apply And.intro) <;> first | rfl | trivial
   ·rw [Zd h32 h0 hd, show ((U.aN (b.drop 40)).2 != 0) = true from bne_iff_ne.2 hd]
    (repeat' apply And.intro) <;> first | rfl | trivial | exact congrArg (fun z => (U.aN z).2) g2
  ·rw [TS h32 h0, show ((U.dP b).2.2 != 0) = true from bne_iff_ne.2 h0]
   (repeat' apply And.intro) <;> first | rfl | trivial
theorem aff (c : Chain) (b : List Int) (hv : qR [dH, aI] (c, b)) (hl : b.length <= 1000000000) : JA c b := by
 unfold JA
 refine ⟨hl, ?_⟩
 rw [aa1, al8 hv.2.1]
 by_cases h0 : (U.ak b).2.2 = 0
 ·rw [h0]
  by_cases he : (U.ak b).1 = c
  ·rw [decide_eq_true he, Zh h0 he]
   show b.length <= 1000000000000 /\ _
   refine ⟨by omega, ?_⟩
   (repeat' apply And.intro) <;> first | rfl | trivial
  ·rw [decide_eq_false he, Zg h0 he]
   (repeat' apply And.intro) <;> first | rfl | trivial
 ·rw [Wx h0, show ((U.ak b).2.2 != 0) = true from bne_iff_ne.2 h0]
  (repeat' apply And.intro) <;> first | rfl | trivial
end Go.Proofs.YtkhdeldobekciaaGreatDoor
set_option linter.unusedSimpArgs false
set_option maxRecDepth 100000
set_option linter.unusedVariables false
namespace Go.Proofs.YtkhdeldobekciaaGreatDoor
open Go.Vc
theorem aci (x : aP [dH]) : bg Tryz.prog (aT Hq) (PS x) 10 (aZ [dH] x) [] (FU x) = CZ x := by kernel_rfl
theorem acj : Pok 10 [dH] (fun x => FU x) := by
 refine pk (L := fun x => PS x) (l := Hq) Wn (fun _ => rfl) ?_
 intro x hv hp
 rw [aci]
 exact aal x
theorem acn : aV Tryz.prog gl 10 PO := acj
theorem MQ : aQ yA := .cons acn Wn
theorem aco (x : aP [dH, aI]) : bg Tryz.prog (aT yA) (PV x.1 x.2) 20 (aZ [dH, aI] x) [] (yB x.1 x.2) = MO x.1 x.2 := by kernel_rfl
theorem acp : Pok 20 [dH, aI] (fun x => yB x.1 x.2) := by
 refine pk (L := fun x => PV x.1 x.2) (l := yA) MQ (fun _ => rfl) ?_
 intro x hv hp
 rw [aco]
 exact aam x.1 x.2 (hp (List.length x.2 <= 1000000000000) (by simp [yB]))
theorem acr : aV Tryz.prog gl 20 PU := acp
theorem MR : aQ yC := .cons acr MQ
theorem afg (x : aP [dH, dA]) : bg Tryz.prog (aT yC) (TL x.1 x.2) 7 (aZ [dH, dA] x) [] (vG x.1 x.2) = FV x.1 x.2 := by kernel_rfl
theorem afh : Pok 7 [dH, dA] (fun x => vG x.1 x.2) := by
 refine pk (L := fun x => TL x.1 x.2) (l := yC) MR (fun _ => rfl) ?_
 intro x hv hp
 rw [afg]
 exact acf x.1 x.2 hv (hp (List.length (U.dG x.2) <= 1000000000000) (by simp [vG])) (hp (List.length (U.eTo x.2) <= 1000000000000) (by simp [vG]))
theorem afi : aV Tryz.prog gl 7 TK := afh
theorem PX : aQ A8 := .cons afi MR
theorem afj (x : aP [aI]) : bg Tryz.prog (aT A8) (TN x) 12 (aZ [aI] x) [] (Ba x) = FW x := by kernel_rfl
theorem afk : Pok 12 [aI] (fun x => Ba x) := by
 refine pk (L := fun x => TN x) (l := A8) PX (fun _ => rfl) ?_
 intro x hv hp
 rw [afj]
 exact acg x hv.1 (hp (List.length x <= 1000000000) (by simp [Ba]))
theorem afl : aV Tryz.prog gl 12 TM := afk
theorem PY : aQ Bc := .cons afl PX
theorem afm (x : aP [dH, aI]) : bg Tryz.prog (aT Bc) (TQ x.1 x.2) 14 (aZ [dH, aI] x) [] (Bd x.1 x.2) = FX x.1 x.2 := by kernel_rfl
theorem afn : Pok 14 [dH, aI] (fun x => Bd x.1 x.2) := by
 refine pk (L := fun x => TQ x.1 x.2) (l := Bc) PY (fun _ => rfl) ?_
 intro x hv hp
 rw [afm]
 exact ach x.1 x.2 hv (hp (List.length x.2 <= 1000000000) (by simp [Bd]))
theorem afo : aV Tryz.prog gl 14 TP := afn
theorem PZ : aQ Bf := .cons afo PY
theorem agG (x : aP [aI]) : bg Tryz.prog (aT Bf) (Wq x) 13 (aZ [aI] x) [] (DT x) = Jz x := by kernel_rfl
theorem agH : Pok 13 [aI] (fun x => DT x) := by
 refine pk (L := fun x => Wq x) (l := Bf) PZ (fun _ => rfl) ?_
 intro x hv hp
 rw [agG]
 exact afe x hv.1 (hp (List.length x <= 1000000000) (by simp [DT]))
theorem agI : aV Tryz.prog gl 13 Wp := agH
theorem TT : aQ DU := .cons agI PZ
theorem agJ (x : aP [dH, aI]) : bg Tryz.prog (aT DU) (Wu x.1 x.2) 15 (aZ [dH, aI] x) [] (DV x.1 x.2) = JA x.1 x.2 := by kernel_rfl
theorem agK : Pok 15 [dH, aI] (fun x => DV x.1 x.2) := by
 refine pk (L := fun x => Wu x.1 x.2) (l := DU) TT (fun _ => rfl) ?_
 intro x hv hp
 rw [agJ]
 exact aff x.1 x.2 hv (hp (List.length x.2 <= 1000000000) (by simp [DV]))
theorem agL : aV Tryz.prog gl 15 Ws := agK
theorem TU : aQ DW := .cons agL TT
end Go.Proofs.YtkhdeldobekciaaGreatDoor
