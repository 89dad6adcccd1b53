/- What functions of this seat compute, in plain Lean. -/
import Derived.Test.YtkhdeldobekciaaDoorKH
import Derived.Test.YtkhdeldobekciaaDoorKI
set_option linter.unusedVariables false
set_option linter.unusedSimpArgs false
set_option maxRecDepth 100000
namespace Go.Proofs.YtkhdeldobekciaaDoor
open Go.Vc
abbrev fA : Ty := .pair (.arr 32 (.int .u8)) (.int .i64)
abbrev Chain := List Int × Int
namespace U
def jO (c : Chain) : Bool := decide (c.2 >= 0) && decide (c.2 <= 1099511627776)
def dA : Chain := (List.replicate 32 0, 0)
def kE (c : Chain) (e : Event) : List Int := c.1 ++ (num1 (c.2 + 1) ++ nN e)
def fO (c : Chain) (b : List Int) : Chain := (sum b, IntKind.i64.wrap (c.2 + 1))
def aJ (c : Chain) (e : Event) : List Int × Chain × Int := cond (!(bI e) || !(jO c)) ([], dA, 1) (cond (decide (c.2 = 1099511627776)) ([], dA, 15) (kE c e, fO c (kE c e), 0))
def fD (b : List Int) : Int × RS := let n := aj (b.drop 32, 0); (n.1, fH (decide (n.1 < 1) || decide (n.1 > 1099511627776)) n.2)
def ay (b : List Int) : Chain × Event × Int := cond (decide (b.length < 32)) (dA, zeroE, 2) (cond (decide ((fD b).2.2 = 0)) (cond (decide ((aZ (b.drop 40)).2 = 0)) ((b.take 32, (fD b).1 - 1), (aZ (b.drop 40)).1, 0) (dA, zeroE, (aZ (b.drop 40)).2)) (dA, zeroE, (fD b).2.2))
def aF (c : Chain) (b : List Int) : Chain × Event × Int := cond (decide ((ay b).2.2 = 0)) (cond (decide ((ay b).1 = c)) (fO c b, (ay b).2.1, 0) (dA, zeroE, 11)) (dA, zeroE, (ay b).2.2)
end U
def zS (c : Chain) : Done := rB (U.jO c)
def Iy : Vc.Sum := .pure [fA] false fun x => zS x
def Iz (c : Chain) : Nat -> List V -> Nat -> Option Vc.Loop := dO
def tu : List (Nat × Ent) := (13, .sum Iy) :: Hu
def tC (c : Chain) (b : List Int) : Done := ⟨[b.length <= 1000000000000], .v (.of false fA (U.fO c b)), [], []⟩
def IB : Vc.Sum := .pure [fA, aN] true fun x => tC x.1 x.2
def IC (c : Chain) (b : List Int) : Nat -> List V -> Nat -> Option Vc.Loop := dO
def tH : List (Nat × Ent) := (16, .sum IB) :: tu
def qx (c : Chain) (e : Event) : Done := ⟨[(U.bJ e).length <= 1000000000000, (U.eTo e).length <= 1000000000000], .tup [one (.psl true (.int .u8) (U.aJ c e).1), .of false fA (U.aJ c e).2.1, one (.int .i64 (U.aJ c e).2.2)], [], []⟩
def KQ : Vc.Sum := .pure [fA, bQ] true fun x => qx x.1 x.2
def KR (c : Chain) (e : Event) : Nat -> List V -> Nat -> Option Vc.Loop := dO
def wG : List (Nat × Ent) := (7, .sum KQ) :: tH
def wH (b : List Int) : Done := ⟨[b.length <= 1000000000], .tup [.of false fA (U.ay b).1, .of false bQ (U.ay b).2.1, one (.int .i64 (U.ay b).2.2)], [], []⟩
def KT : Vc.Sum := .pure [aN] true fun x => wH x
def KU (b : List Int) : Nat -> List V -> Nat -> Option Vc.Loop := dO
def wI : List (Nat × Ent) := (17, .sum KT) :: wG
def wJ (c : Chain) (b : List Int) : Done := ⟨[b.length <= 1000000000], .tup [.of false fA (U.aF c b).1, .of false bQ (U.aF c b).2.1, one (.int .i64 (U.aF c b).2.2)], [], []⟩
def KW : Vc.Sum := .pure [fA, aN] true fun x => wJ x.1 x.2
def KX (c : Chain) (b : List Int) : Nat -> List V -> Nat -> Option Vc.Loop := dO
def wK : List (Nat × Ent) := (8, .sum KW) :: wI
end Go.Proofs.YtkhdeldobekciaaDoor
set_option maxRecDepth 100000
set_option linter.unusedVariables false
namespace Go.Proofs.YtkhdeldobekciaaDoor
open Go.Vc
def xO (c : Chain) : Prop := (bif decide (c.2 >= (0 : Int)) then decide (c.2 <= (1099511627776 : Int)) else false) = U.jO c /\ True
def FX (c : Chain) (b : List Int) : Prop := b.length <= (1000000000000 : Nat) /\ U.sum b = (U.fO c b).1 /\ IntKind.i64.wrap (c.2.add (1 : Int)) = (U.fO c b).2 /\ True
def zT (c : Chain) (e : Event) : Prop := (U.bJ e).length <= (1000000000000 : Nat) /\ (U.eTo e).length <= (1000000000000 : Nat) /\ bif bif (U.uf e).2 != (0 : Int) then true else !U.jO c then [] = (U.aJ c e).1 /\ [(0 : Int), (0 : Int), (0 : Int), (0 : Int), (0 : Int), (0 : Int), (0 : Int), (0 : Int), (0 : Int), (0 : Int), (0 : Int), (0 : Int), (0 : Int), (0 : Int), (0 : Int), (0 :
 Int), (0 : Int), (0 : Int), (0 : Int), (0 : Int), (0 : Int), (0 : Int), (0 : Int), (0 : Int), (0 : Int), (0 : Int), (0 : Int), (0 : Int), (0 : Int), (0 : Int), (0 : Int), (0 : Int)] = (U.aJ c e).2.1.1 /\ (0 : Int) = (U.aJ c e).2.1.2 /\ (1 : Int) = (U.aJ c e).2.2 /\ True else bif decide (c.2 = (1099511627776 : Int)) then [] = (U.aJ c e).1 /\ [(0 : Int), (0 : Int), (0 : Int), (0 :
 Int), (0 : Int), (0 : Int), (0 : Int), (0 : Int), (0 : Int), (0 : Int), (0 : Int), (0 : Int), (0 : Int), (0 : Int), (0 : Int), (0 : Int), (0 : Int), (0 : Int), (0 : Int), (0 : Int), (0 : Int), (0 : Int), (0 : Int), (0 : Int), (0 : Int), (0 : Int), (0 : Int), (0 : Int), (0 : Int), (0 : Int), (0 : Int), (0 : Int)] = (U.aJ c e).2.1.1 /\ (0 : Int) = (U.aJ c e).2.1.2 /\ (15 : Int) = (U.aJ c
 e).2.2 /\ True else (0 : Int) <= (0 : Int) /\ (0 : Int) <= (↑(32 : Nat) : Int) /\ (↑(32 : Nat) : Int) <= (↑(32 : Nat) : Int) /\ (List.take ((↑(32 : Nat) : Int).toNat.sub (0 : Nat)) (List.drop (0 : Nat) c.1)).length <= (1000000000000 : Nat) /\ (1 : Nat) <= (100000000000 : Nat) /\ (((List.take ((↑(32 : Nat) : Int).toNat.sub (0 : Nat)) (List.drop (0 : Nat) c.1)).append (U.nums ([(0 : Int)].set (0 : Nat)
 (IntKind.i64.wrap (c.2.add (1 : Int)))))).append ((U.uf e).1.append [])).length <= (70000000000000 : Nat) /\ (((List.take ((↑(32 : Nat) : Int).toNat.sub (0 : Nat)) (List.drop (0 : Nat) c.1)).append (U.nums ([(0 : Int)].set (0 : Nat) (IntKind.i64.wrap (c.2.add (1 : Int)))))).append ((U.uf e).1.append [])).length <= (1000000000000 : Nat) /\ ((List.take ((↑(32 : Nat) : Int).toNat.sub (0 : Nat))
 (List.drop (0 : Nat) c.1)).append (U.nums ([(0 : Int)].set (0 : Nat) (IntKind.i64.wrap (c.2.add (1 : Int)))))).append ((U.uf e).1.append []) = (U.aJ c e).1 /\ (U.fO c (((List.take ((↑(32 : Nat) : Int).toNat.sub (0 : Nat)) (List.drop (0 : Nat) c.1)).append (U.nums ([(0 : Int)].set (0 : Nat) (IntKind.i64.wrap (c.2.add (1 : Int)))))).append ((U.uf e).1.append []))).1 = (U.aJ c
 e).2.1.1 /\ (U.fO c (((List.take ((↑(32 : Nat) : Int).toNat.sub (0 : Nat)) (List.drop (0 : Nat) c.1)).append (U.nums ([(0 : Int)].set (0 : Nat) (IntKind.i64.wrap (c.2.add (1 : Int)))))).append ((U.uf e).1.append []))).2 = (U.aJ c e).2.1.2 /\ (0 : Int) = (U.aJ c e).2.2 /\ True
def zU (b : List Int) : Prop := bif decide ((↑b.length : Int) < (32 : Int)) then [(0 : Int), (0 : Int), (0 : Int), (0 : Int), (0 : Int), (0 : Int), (0 : Int), (0 : Int), (0 : Int), (0 : Int), (0 : Int), (0 : Int), (0 : Int), (0 : Int), (0 : Int), (0 : Int), (0 : Int), (0 : Int), (0 : Int), (0 : Int), (0 : Int), (0 : Int), (0 : Int), (0 : Int), (0 : Int), (0 : Int), (0 : Int), (0 : Int),
 (0 : Int), (0 : Int), (0 : Int), (0 : Int)] = (U.ay b).1.1 /\ (0 : Int) = (U.ay b).1.2 /\ (0 : Int) = (U.ay b).2.1.1 /\ (0 : Int) = (U.ay b).2.1.2.1 /\ [] = (U.ay b).2.1.2.2.1 /\ [] = (U.ay b).2.1.2.2.2.1 /\ [] = (U.ay b).2.1.2.2.2.2.1 /\ [] = (U.ay b).2.1.2.2.2.2.2.1 /\ (0 : Int) = (U.ay b).2.1.2.2.2.2.2.2.1 /\ (0 : Int) = (U.ay b).2.1.2.2.2.2.2.2.2.1 /\ (0
 : Int) = (U.ay b).2.1.2.2.2.2.2.2.2.2.1 /\ (0 : Int) = (U.ay b).2.1.2.2.2.2.2.2.2.2.2.1 /\ [] = (U.ay b).2.1.2.2.2.2.2.2.2.2.2.2 /\ (2 : Int) = (U.ay b).2.2 /\ True else (0 : Int) <= (32 : Int) /\ (32 : Int) <= (↑b.length : Int) /\ (↑b.length : Int) <= (↑b.length : Int) /\ bif (U.fH (bif decide ((U.aj (List.take ((↑b.length : Int).toNat.sub (32 : Nat)) (List.drop (32 : Nat) b), (0 :
 Int))).1 < (1 : Int)) then true else decide ((U.aj (List.take ((↑b.length : Int).toNat.sub (32 : Nat)) (List.drop (32 : Nat) b), (0 : Int))).1 > (1099511627776 : Int))) (U.aj (List.take ((↑b.length : Int).toNat.sub (32 : Nat)) (List.drop (32 : Nat) b), (0 : Int))).2).2 != (0 : Int) then [(0 : Int), (0 : Int), (0 : Int), (0 : Int), (0 : Int), (0 : Int), (0 : Int), (0 : Int), (0 : Int), (0 :
 Int), (0 : Int), (0 : Int), (0 : Int), (0 : Int), (0 : Int), (0 : Int), (0 : Int), (0 : Int), (0 : Int), (0 : Int), (0 : Int), (0 : Int), (0 : Int), (0 : Int), (0 : Int), (0 : Int), (0 : Int), (0 : Int), (0 : Int), (0 : Int), (0 : Int), (0 : Int)] = (U.ay b).1.1 /\ (0 : Int) = (U.ay b).1.2 /\ (0 : Int) = (U.ay b).2.1.1 /\ (0 : Int) = (U.ay b).2.1.2.1 /\ [] = (U.ay b).2.1.2.2.1
 /\ [] = (U.ay b).2.1.2.2.2.1 /\ [] = (U.ay b).2.1.2.2.2.2.1 /\ [] = (U.ay b).2.1.2.2.2.2.2.1 /\ (0 : Int) = (U.ay b).2.1.2.2.2.2.2.2.1 /\ (0 : Int) = (U.ay b).2.1.2.2.2.2.2.2.2.1 /\ (0 : Int) = (U.ay b).2.1.2.2.2.2.2.2.2.2.1 /\ (0 : Int) = (U.ay b).2.1.2.2.2.2.2.2.2.2.2.1 /\ [] = (U.ay b).2.1.2.2.2.2.2.2.2.2.2.2 /\ (U.fH (bif decide ((U.aj (List.take ((↑b.length
 : Int).toNat.sub (32 : Nat)) (List.drop (32 : Nat) b), (0 : Int))).1 < (1 : Int)) then true else decide ((U.aj (List.take ((↑b.length : Int).toNat.sub (32 : Nat)) (List.drop (32 : Nat) b), (0 : Int))).1 > (1099511627776 : Int))) (U.aj (List.take ((↑b.length : Int).toNat.sub (32 : Nat)) (List.drop (32 : Nat) b), (0 : Int))).2).2 = (U.ay b).2.2 /\ True else (0 : Int) <= (40 : Int) /\ (40 : Int)
 <= (↑b.length : Int) /\ (↑b.length : Int) <= (↑b.length : Int) /\ (List.take ((↑b.length : Int).toNat.sub (40 : Nat)) (List.drop (40 : Nat) b)).length <= (1000000000 : Nat) /\ bif (U.aZ (List.take ((↑b.length : Int).toNat.sub (40 : Nat)) (List.drop (40 : Nat) b))).2 != (0 : Int) then [(0 : Int), (0 : Int), (0 : Int), (0 : Int), (0 : Int), (0 : Int), (0 : Int), (0 : Int), (0 : Int), (0 : Int), (0 :
 Int), (0 : Int), (0 : Int), (0 : Int), (0 : Int), (0 : Int), (0 : Int), (0 : Int), (0 : Int), (0 : Int), (0 : Int), (0 : Int), (0 : Int), (0 : Int), (0 : Int), (0 : Int), (0 : Int), (0 : Int), (0 : Int), (0 : Int), (0 : Int), (0 : Int)] = (U.ay b).1.1 /\ (0 : Int) = (U.ay b).1.2 /\ (0 : Int) = (U.ay b).2.1.1 /\ (0 : Int) = (U.ay b).2.1.2.1 /\ [] = (U.ay b).2.1.2.2.1 /\ [] =
 (U.ay b).2.1.2.2.2.1 /\ [] = (U.ay b).2.1.2.2.2.2.1 /\ [] = (U.ay b).2.1.2.2.2.2.2.1 /\ (0 : Int) = (U.ay b).2.1.2.2.2.2.2.2.1 /\ (0 : Int) = (U.ay b).2.1.2.2.2.2.2.2.2.1 /\ (0 : Int) = (U.ay b).2.1.2.2.2.2.2.2.2.2.1 /\ (0 : Int) = (U.ay b).2.1.2.2.2.2.2.2.2.2.2.1 /\ [] = (U.ay b).2.1.2.2.2.2.2.2.2.2.2.2 /\ (U.aZ (List.take ((↑b.length : Int).toNat.sub (40 : Nat))
 (List.drop (40 : Nat) b))).2 = (U.ay b).2.2 /\ True else (32 : Nat) <= b.length /\ List.take (32 : Nat) b = (U.ay b).1.1 /\ IntKind.i64.wrap ((U.aj (List.take ((↑b.length : Int).toNat.sub (32 : Nat)) (List.drop (32 : Nat) b), (0 : Int))).1.sub (1 : Int)) = (U.ay b).1.2 /\ (U.aZ (List.take ((↑b.length : Int).toNat.sub (40 : Nat)) (List.drop (40 : Nat) b))).1.1 = (U.ay b).2.1.1 /\
 (U.aZ (List.take ((↑b.length : Int).toNat.sub (40 : Nat)) (List.drop (40 : Nat) b))).1.2.1 = (U.ay b).2.1.2.1 /\ (U.aZ (List.take ((↑b.length : Int).toNat.sub (40 : Nat)) (List.drop (40 : Nat) b))).1.2.2.1 = (U.ay b).2.1.2.2.1 /\ (U.aZ (List.take ((↑b.length : Int).toNat.sub (40 : Nat)) (List.drop (40 : Nat) b))).1.2.2.2.1 = (U.ay b).2.1.2.2.2.1 /\ (U.aZ (List.take ((↑b.length :
 Int).toNat.sub (40 : Nat)) (List.drop (40 : Nat) b))).1.2.2.2.2.1 = (U.ay b).2.1.2.2.2.2.1 /\ (U.aZ (List.take ((↑b.length : Int).toNat.sub (40 : Nat)) (List.drop (40 : Nat) b))).1.2.2.2.2.2.1 = (U.ay b).2.1.2.2.2.2.2.1 /\ (U.aZ (List.take ((↑b.length : Int).toNat.sub (40 : Nat)) (List.drop (40 : Nat) b))).1.2.2.2.2.2.2.1 = (U.ay b).2.1.2.2.2.2.2.2.1 /\ (U.aZ (List.take
 ((↑b.length : Int).toNat.sub (40 : Nat)) (List.drop (40 : Nat) b))).1.2.2.2.2.2.2.2.1 = (U.ay b).2.1.2.2.2.2.2.2.2.1 /\ (U.aZ (List.take ((↑b.length : Int).toNat.sub (40 : Nat)) (List.drop (40 : Nat) b))).1.2.2.2.2.2.2.2.2.1 = (U.ay b).2.1.2.2.2.2.2.2.2.2.1 /\ (U.aZ (List.take ((↑b.length : Int).toNat.sub (40 : Nat)) (List.drop (40 : Nat) b))).1.2.2.2.2.2.2.2.2.2.1 = (U.ay
 b).2.1.2.2.2.2.2.2.2.2.2.1 /\ (U.aZ (List.take ((↑b.length : Int).toNat.sub (40 : Nat)) (List.drop (40 : Nat) b))).1.2.2.2.2.2.2.2.2.2.2 = (U.ay b).2.1.2.2.2.2.2.2.2.2.2.2 /\ (0 : Int) = (U.ay b).2.2 /\ True
def zV (c : Chain) (b : List Int) : Prop := b.length <= (1000000000 : Nat) /\ bif (U.ay b).2.2 != (0 : Int) then [(0 : Int), (0 : Int), (0 : Int), (0 : Int), (0 : Int), (0 : Int), (0 : Int), (0 : Int), (0 : Int), (0 : Int), (0 : Int), (0 : Int), (0 : Int), (0 : Int), (0 : Int), (0 : Int), (0 : Int), (0 : Int), (0 : Int), (0 : Int), (0 : Int), (0 : Int), (0 : Int), (0 : Int), (0 :
 Int), (0 : Int), (0 : Int), (0 : Int), (0 : Int), (0 : Int), (0 : Int), (0 : Int)] = (U.aF c b).1.1 /\ (0 : Int) = (U.aF c b).1.2 /\ (0 : Int) = (U.aF c b).2.1.1 /\ (0 : Int) = (U.aF c b).2.1.2.1 /\ [] = (U.aF c b).2.1.2.2.1 /\ [] = (U.aF c b).2.1.2.2.2.1 /\ [] = (U.aF c b).2.1.2.2.2.2.1 /\ [] = (U.aF c b).2.1.2.2.2.2.2.1 /\ (0 : Int) = (U.aF c
 b).2.1.2.2.2.2.2.2.1 /\ (0 : Int) = (U.aF c b).2.1.2.2.2.2.2.2.2.1 /\ (0 : Int) = (U.aF c b).2.1.2.2.2.2.2.2.2.2.1 /\ (0 : Int) = (U.aF c b).2.1.2.2.2.2.2.2.2.2.2.1 /\ [] = (U.aF c b).2.1.2.2.2.2.2.2.2.2.2.2 /\ (U.ay b).2.2 = (U.aF c b).2.2 /\ True else bif !((U.ay b).1.1.beq c.1 && (decide ((U.ay b).1.2 = c.2) && true)) then [(0 : Int), (0 : Int), (0 : Int), (0 :
 Int), (0 : Int), (0 : Int), (0 : Int), (0 : Int), (0 : Int), (0 : Int), (0 : Int), (0 : Int), (0 : Int), (0 : Int), (0 : Int), (0 : Int), (0 : Int), (0 : Int), (0 : Int), (0 : Int), (0 : Int), (0 : Int), (0 : Int), (0 : Int), (0 : Int), (0 : Int), (0 : Int), (0 : Int), (0 : Int), (0 : Int), (0 : Int), (0 : Int)] = (U.aF c b).1.1 /\ (0 : Int) = (U.aF c b).1.2 /\ (0 : Int) = (U.aF c
 b).2.1.1 /\ (0 : Int) = (U.aF c b).2.1.2.1 /\ [] = (U.aF c b).2.1.2.2.1 /\ [] = (U.aF c b).2.1.2.2.2.1 /\ [] = (U.aF c b).2.1.2.2.2.2.1 /\ [] = (U.aF c b).2.1.2.2.2.2.2.1 /\ (0 : Int) = (U.aF c b).2.1.2.2.2.2.2.2.1 /\ (0 : Int) = (U.aF c b).2.1.2.2.2.2.2.2.2.1 /\ (0 : Int) = (U.aF c b).2.1.2.2.2.2.2.2.2.2.1 /\ (0 : Int) = (U.aF c b).2.1.2.2.2.2.2.2.2.2.2.1 /\ [] =
 (U.aF c b).2.1.2.2.2.2.2.2.2.2.2.2 /\ (11 : Int) = (U.aF c b).2.2 /\ True else b.length <= (1000000000000 : Nat) /\ (U.fO c b).1 = (U.aF c b).1.1 /\ (U.fO c b).2 = (U.aF c b).1.2 /\ (U.ay b).2.1.1 = (U.aF c b).2.1.1 /\ (U.ay b).2.1.2.1 = (U.aF c b).2.1.2.1 /\ (U.ay b).2.1.2.2.1 = (U.aF c b).2.1.2.2.1 /\ (U.ay b).2.1.2.2.2.1 = (U.aF c
 b).2.1.2.2.2.1 /\ (U.ay b).2.1.2.2.2.2.1 = (U.aF c b).2.1.2.2.2.2.1 /\ (U.ay b).2.1.2.2.2.2.2.1 = (U.aF c b).2.1.2.2.2.2.2.1 /\ (U.ay b).2.1.2.2.2.2.2.2.1 = (U.aF c b).2.1.2.2.2.2.2.2.1 /\ (U.ay b).2.1.2.2.2.2.2.2.2.1 = (U.aF c b).2.1.2.2.2.2.2.2.2.1 /\ (U.ay b).2.1.2.2.2.2.2.2.2.2.1 = (U.aF c b).2.1.2.2.2.2.2.2.2.2.1 /\ (U.ay
 b).2.1.2.2.2.2.2.2.2.2.2.1 = (U.aF c b).2.1.2.2.2.2.2.2.2.2.2.1 /\ (U.ay b).2.1.2.2.2.2.2.2.2.2.2.2 = (U.aF c b).2.1.2.2.2.2.2.2.2.2.2.2 /\ (0 : Int) = (U.aF c b).2.2 /\ True
end Go.Proofs.YtkhdeldobekciaaDoor
set_option linter.unusedSimpArgs false
set_option linter.unusedVariables false
set_option maxRecDepth 100000
namespace Go.Proofs.YtkhdeldobekciaaDoor
open Go.Vc
open Go.Vc.T
theorem RD (c : Chain) : xO c := by
 unfold xO U.jO; rw [gQ]; exact ⟨rfl, trivial⟩
theorem RF (c : Chain) (b : List Int) (h : b.length <= 1000000000000) : FX c b := ⟨h, rfl, rfl, trivial⟩
theorem OG {e : Event} (h : U.bI e = true) : (U.nN e).length <= 50000 := by rw [<- aci]; exact acd h 9
theorem ER {c : Chain} {e : Event} (h : (!(U.bI e) || !(U.jO c)) = true) : U.aJ c e = ([], U.dA, 1) := by unfold U.aJ; rw [h]; rfl
theorem KY {c : Chain} {e : Event} (h1 : U.bI e = true) (h2 : U.jO c = true) (h : c.2 = 1099511627776) : U.aJ c e = ([], U.dA, 15) := by unfold U.aJ; rw [h1, h2, decide_eq_true h]; rfl
theorem Qx {c : Chain} {e : Event} (h1 : U.bI e = true) (h2 : U.jO c = true) (h : ¬ c.2 = 1099511627776) : U.aJ c e = (U.kE c e, U.fO c (U.kE c e), 0) := by unfold U.aJ; rw [h1, h2, decide_eq_false h]; rfl
theorem chR {c : Chain} (h : U.jO c = true) : 0 <= c.2 /\ c.2 <= 1099511627776 := by
 unfold U.jO at h; simpa using h
theorem H6 {c : Chain} {e : Event} (hl : c.1.length = 32) : (U.kE c e).length = 40 + (U.nN e).length := by
 unfold U.kE; rw [List.length_append, List.length_append, dS, hl]; omega
theorem Xp {α : Type} (l : List α) {k : Nat} (h : l.length <= k) : l.take k = l := List.take_of_length_le h
theorem Un {b : List Int} (h : b.length < 32) : U.ay b = (U.dA, U.zeroE, 2) := by unfold U.ay; rw [decide_eq_true h]; rfl
theorem Xq {b : List Int} (h : ¬ b.length < 32) (h2 : ¬ (U.fD b).2.2 = 0) : U.ay b = (U.dA, U.zeroE, (U.fD b).2.2) := by unfold U.ay; rw [decide_eq_false h, decide_eq_false h2]; rfl
theorem aau {b : List Int} (h : ¬ b.length < 32) (h2 : (U.fD b).2.2 = 0) (h3 : ¬ (U.aZ (b.drop 40)).2 = 0) : U.ay b = (U.dA, U.zeroE, (U.aZ (b.drop 40)).2) := by unfold U.ay; rw [decide_eq_false h, decide_eq_true h2, decide_eq_false h3]; rfl
theorem Qy {b : List Int} (h : ¬ b.length < 32) (h2 : (U.fD b).2.2 = 0) (h3 : (U.aZ (b.drop 40)).2 = 0) : U.ay b = ((b.take 32, (U.fD b).1 - 1), (U.aZ (b.drop 40)).1, 0) := by unfold U.ay; rw [decide_eq_false h, decide_eq_true h2, decide_eq_true h3]; rfl
theorem aav {b : List Int} (h : ¬ b.length < 32) (h2 : (U.fD b).2.2 = 0) : 40 <= b.length /\ (U.fD b).2.1 = b.drop 40 /\ 1 <= (U.fD b).1 /\ (U.fD b).1 <= 1099511627776 := by
 have hd : (b.drop 32).drop 8 = b.drop 40 := by rw [List.drop_drop]
 have hl : (b.drop 32).length = b.length - 32 := List.length_drop
 unfold U.fD U.fH at *
 simp only [] at *
 unfold U.aj at *
 simp only [decide_true, cond_true] at *
 by_cases h8 : (b.drop 32).length < 8
 ·rw [decide_eq_true h8] at h2; simp at h2
 ·rw [decide_eq_false h8] at h2 ⊢
  simp only [cond_false] at h2 ⊢
  by_cases hv : U.aO ((b.drop 32).take 8) > 4611686018427387904
  ·rw [decide_eq_true hv] at h2; simp at h2
  ·rw [decide_eq_false hv] at h2 ⊢
   simp only [cond_false, decide_true, Bool.true_and] at h2 ⊢
   cases hb : (decide (U.aO ((b.drop 32).take 8) < 1) || decide (U.aO ((b.drop 32).take 8) > 1099511627776)) with
   | true => rw [hb] at h2; simp at h2
   | false =>
     simp only [Bool.or_eq_false_iff, decide_eq_false_iff_not] at hb
     simp only [cond_false]
     exact ⟨by omega, hd, by omega, by omega⟩
theorem ada (b : List Int) (k : Nat) : List.take ((b.length : Int).toNat.sub k) (List.drop k b) = b.drop k := UU b k
theorem Uo (c : Chain) (e : Event) (hv : nO [fA, bQ] (c, e)) (h1 : (U.bJ e).length <= 1000000000000) (h2 : (U.eTo e).length <= 1000000000000) : zT c e := by
 unfold zT
 have hl : c.1.length = 32 := hv.1.1.2
 refine ⟨h1, h2, ?_⟩
 rw [iI]
 cases hr : U.bI e with
 | false => rw [abj hr, ER (by rw [hr]; rfl)]; exact ⟨rfl, rfl, rfl, rfl, trivial⟩
 | true =>
   rw [abh hr]
   cases hc : U.jO c with
   | false => rw [ER (by rw [hc]; simp)]; exact ⟨rfl, rfl, rfl, rfl, trivial⟩
   | true =>
     obtain ⟨hc0, hc1⟩ := chR hc
     by_cases hm : c.2 = 1099511627776
     ·rw [decide_eq_true hm, KY hr hc hm]; exact ⟨rfl, rfl, rfl, rfl, trivial⟩
     ·rw [decide_eq_false hm, Qx hr hc hm]
      have hle := OG hr
      have hB : ((List.take ((↑(32 : Nat) : Int).toNat.sub 0) (List.drop 0 c.1)).append (U.nums ([(0 : Int)].set 0 (IntKind.i64.wrap (c.2.add 1))))).append ((U.nN e).append []) = U.kE c e := by
       rw [show List.take ((↑(32 : Nat) : Int).toNat.sub 0) (List.drop 0 c.1) = c.1 from Xp c.1 (Nat.le_of_eq hl)]
       unfold U.kE
       rw [bU, dI (x := c.2 + 1) (by omega) (by omega)]
       simp only [dW, List.append_nil, List.append_assoc]
       congr 2
       show U.nums [c.2 + 1] = _
       simp [U.nums]
      have hlen := H6 (c := c) (e := e) hl
      show (0 : Int) <= 0 /\ _
      rw [hB]
      refine ⟨by omega, by omega, by omega, ?_, by omega, by omega, by omega, rfl, rfl, rfl, rfl, trivial⟩
      rw [show List.take ((↑(32 : Nat) : Int).toNat.sub 0) (List.drop 0 c.1) = c.1 from Xp c.1 (Nat.le_of_eq hl)]; omega
theorem Ur (b : List Int) (hb : ∀ x ∈ b, Valid (.int .u8) x) (hl : b.length <= 1000000000) : zU b := by
 unfold zU
 simp only [ada]
 by_cases h32 : b.length < 32
 ·rw [decide_eq_true (by omega : (b.length : Int) < 32), Un h32]; (repeat' apply And.intro) <;> first | rfl | trivial
 ·rw [decide_eq_false (by omega : ¬ (b.length : Int) < 32)]
  refine ⟨by omega, by omega, by omega, ?_⟩
  rw [iI]
  show bif (U.fD b).2.2 != 0 then _ else _
  by_cases h0 : (U.fD b).2.2 = 0
  ·obtain ⟨g1, g2, g3, g4⟩ := aav h32 h0
   rw [h0]
   show (0 : Int) <= 40 /\ _
   refine ⟨by omega, by omega, by omega, by rw [List.length_drop]; omega, ?_⟩
   by_cases hd : (U.aZ (b.drop 40)).2 = 0
   ·rw [hd, Qy h32 h0 hd]
    have hw : IntKind.i64.wrap ((U.aj (b.drop 32, 0)).1.sub 1) = (U.fD b).1 - 1 := dI (x := (U.fD b).1 - 1) (by omega) (by omega)
    rw [hw]
    refine ⟨by omega, rfl, rfl, ?_⟩
    (repeat' apply And.intro) <;> first | rfl | trivial
   ·rw [aau h32 h0 hd, show ((U.aZ (b.drop 40)).2 != 0) = true from bne_iff_ne.2 hd]
    (repeat' apply And.intro) <;> first | rfl | trivial
  ·rw [Xq h32 h0, show ((U.fD b).2.2 != 0) = true from bne_iff_ne.2 h0]
   (repeat' apply And.intro) <;> first | rfl | trivial
theorem YG {c : Chain} {b : List Int} (h : ¬ (U.ay b).2.2 = 0) : U.aF c b = (U.dA, U.zeroE, (U.ay b).2.2) := by unfold U.aF; rw [decide_eq_false h]; rfl
theorem aaw {c : Chain} {b : List Int} (h : (U.ay b).2.2 = 0) (h2 : ¬ (U.ay b).1 = c) : U.aF c b = (U.dA, U.zeroE, 11) := by unfold U.aF; rw [decide_eq_true h, decide_eq_false h2]; rfl
theorem aax {c : Chain} {b : List Int} (h : (U.ay b).2.2 = 0) (h2 : (U.ay b).1 = c) : U.aF c b = (U.fO c b, (U.ay b).2.1, 0) := by unfold U.aF; rw [decide_eq_true h, decide_eq_true h2]; rfl
theorem aby (x c : Chain) : (x.1.beq c.1 && (decide (x.2 = c.2) && true)) = decide (x = c) := by
 rw [Y3, Bool.eq_iff_iff]
 simp only [Bool.and_true, Bool.and_eq_true, decide_eq_true_eq]
 constructor
 ·rintro ⟨h1, h2⟩; exact Prod.ext h1 h2
 ·rintro rfl; exact ⟨rfl, rfl⟩
theorem Us (c : Chain) (b : List Int) (hv : nO [fA, aN] (c, b)) (hl : b.length <= 1000000000) : zV c b := by
 unfold zV
 refine ⟨hl, ?_⟩
 rw [aby]
 by_cases h0 : (U.ay b).2.2 = 0
 ·rw [h0]
  by_cases he : (U.ay b).1 = c
  ·rw [decide_eq_true he, aax h0 he]
   show b.length <= 1000000000000 /\ _
   refine ⟨by omega, ?_⟩
   (repeat' apply And.intro) <;> first | rfl | trivial
  ·rw [decide_eq_false he, aaw h0 he]
   (repeat' apply And.intro) <;> first | rfl | trivial
 ·rw [YG h0, show ((U.ay b).2.2 != 0) = true from bne_iff_ne.2 h0]
  (repeat' apply And.intro) <;> first | rfl | trivial
end Go.Proofs.YtkhdeldobekciaaDoor
set_option linter.unusedSimpArgs false
set_option maxRecDepth 100000
set_option linter.unusedVariables false
namespace Go.Proofs.YtkhdeldobekciaaDoor
open Go.Vc
theorem Ut (x : aQ [fA]) : bY Tryd.prog (bC Hu) (Iz x) 13 (bV [fA] x) [] (zS x) = xO x := by kernel_rfl
theorem Uu : Pok 13 [fA] (fun x => zS x) := by
 refine pk (L := fun x => Iz x) (l := Hu) Tn (fun _ => rfl) ?_
 intro x hv hp
 rw [Ut]
 exact RD x
theorem Uw : bH Tryd.prog gl 13 Iy := Uu
theorem FY : bn tu := .cons Uw Tn
theorem Ux (x : aQ [fA, aN]) : bY Tryd.prog (bC tu) (IC x.1 x.2) 16 (bV [fA, aN] x) [] (tC x.1 x.2) = FX x.1 x.2 := by kernel_rfl
theorem Uy : Pok 16 [fA, aN] (fun x => tC x.1 x.2) := by
 refine pk (L := fun x => IC x.1 x.2) (l := tu) FY (fun _ => rfl) ?_
 intro x hv hp
 rw [Ux]
 exact RF x.1 x.2 (hp (List.length x.2 <= 1000000000000) (by simp [tC]))
theorem Uz : bH Tryd.prog gl 16 IB := Uy
theorem FZ : bn tH := .cons Uz FY
theorem Xr (x : aQ [fA, bQ]) : bY Tryd.prog (bC tH) (KR x.1 x.2) 7 (bV [fA, bQ] x) [] (qx x.1 x.2) = zT x.1 x.2 := by kernel_rfl
theorem Xt : Pok 7 [fA, bQ] (fun x => qx x.1 x.2) := by
 refine pk (L := fun x => KR x.1 x.2) (l := tH) FZ (fun _ => rfl) ?_
 intro x hv hp
 rw [Xr]
 exact Uo x.1 x.2 hv (hp (List.length (U.bJ x.2) <= 1000000000000) (by simp [qx])) (hp (List.length (U.eTo x.2) <= 1000000000000) (by simp [qx]))
theorem Xu : bH Tryd.prog gl 7 KQ := Xt
theorem IE : bn wG := .cons Xu FZ
theorem Xv (x : aQ [aN]) : bY Tryd.prog (bC wG) (KU x) 17 (bV [aN] x) [] (wH x) = zU x := by kernel_rfl
theorem Xw : Pok 17 [aN] (fun x => wH x) := by
 refine pk (L := fun x => KU x) (l := wG) IE (fun _ => rfl) ?_
 intro x hv hp
 rw [Xv]
 exact Ur x hv.1 (hp (List.length x <= 1000000000) (by simp [wH]))
theorem Xx : bH Tryd.prog gl 17 KT := Xw
theorem IG : bn wI := .cons Xx IE
theorem Xy (x : aQ [fA, aN]) : bY Tryd.prog (bC wI) (KX x.1 x.2) 8 (bV [fA, aN] x) [] (wJ x.1 x.2) = zV x.1 x.2 := by kernel_rfl
theorem Xz : Pok 8 [fA, aN] (fun x => wJ x.1 x.2) := by
 refine pk (L := fun x => KX x.1 x.2) (l := wI) IG (fun _ => rfl) ?_
 intro x hv hp
 rw [Xy]
 exact Us x.1 x.2 hv (hp (List.length x.2 <= 1000000000) (by simp [wJ]))
theorem XA : bH Tryd.prog gl 8 KW := Xz
theorem II : bn wK := .cons XA IG
end Go.Proofs.YtkhdeldobekciaaDoor
