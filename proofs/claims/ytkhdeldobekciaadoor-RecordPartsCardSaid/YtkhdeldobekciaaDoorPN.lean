/- What functions of this seat compute, in plain Lean. -/
import Derived.Test.YtkhdeldobekciaaDoorPH
import Derived.Test.YtkhdeldobekciaaDoorPI
set_option linter.unusedVariables false
set_option linter.unusedSimpArgs false
set_option maxRecDepth 100000
namespace Go.Proofs.YtkhdeldobekciaaDoor
open Go.Vc
abbrev dJ : Ty := .pair (.arr 32 (.int .u8)) (.int .i64)
abbrev Chain := List Int × Int
namespace U
def jD (c : Chain) : Bool := decide (c.2 >= 0) && decide (c.2 <= 1099511627776)
def kV : Chain := (List.replicate 32 0, 0)
def fJ (c : Chain) (e : Event) : List Int := c.1 ++ (num1 (c.2 + 1) ++ mW e)
def jI (c : Chain) (b : List Int) : Chain := (sum b, IntKind.i64.wrap (c.2 + 1))
def aF (c : Chain) (e : Event) : List Int × Chain × Int := cond (!(aX e) || !(jD c)) ([], kV, 1) (cond (decide (c.2 = 1099511627776)) ([], kV, 15) (fJ c e, jI c (fJ c e), 0))
def gG (b : List Int) : Int × RS := let n := ak (b.drop 32, 0); (n.1, gu (decide (n.1 < 1) || decide (n.1 > 1099511627776)) n.2)
def ay (b : List Int) : Chain × Event × Int := cond (decide (b.length < 32)) (kV, zeroE, 2) (cond (decide ((gG b).2.2 = 0)) (cond (decide ((bC (b.drop 40)).2 = 0)) ((b.take 32, (gG b).1 - 1), (bC (b.drop 40)).1, 0) (kV, zeroE, (bC (b.drop 40)).2)) (kV, zeroE, (gG b).2.2))
def aK (c : Chain) (b : List Int) : Chain × Event × Int := cond (decide ((ay b).2.2 = 0)) (cond (decide ((ay b).1 = c)) (jI c b, (ay b).2.1, 0) (kV, zeroE, 11)) (kV, zeroE, (ay b).2.2)
end U
def BG (c : Chain) : Done := rB (U.jD c)
def Kv : Vc.Sum := .pure [dJ] false fun x => BG x
def Kw (c : Chain) : Nat -> List V -> Nat -> Option Vc.Loop := dw
def uQ : List (Nat × Ent) := (13, .sum Kv) :: Jt
def uS (c : Chain) (b : List Int) : Done := ⟨[b.length <= 1000000000000], .v (.of false dJ (U.jI c b)), [], []⟩
def Ky : Vc.Sum := .pure [dJ, aG] true fun x => uS x.1 x.2
def Kz (c : Chain) (b : List Int) : Nat -> List V -> Nat -> Option Vc.Loop := dw
def uT : List (Nat × Ent) := (16, .sum Ky) :: uQ
def rE (c : Chain) (e : Event) : Done := ⟨[(U.cO e).length <= 1000000000000, (U.eTo e).length <= 1000000000000], .tup [one (.psl true (.int .u8) (U.aF c e).1), .of false dJ (U.aF c e).2.1, one (.int .i64 (U.aF c e).2.2)], [], []⟩
def N8 : Vc.Sum := .pure [dJ, bI] true fun x => rE x.1 x.2
def N9 (c : Chain) (e : Event) : Nat -> List V -> Nat -> Option Vc.Loop := dw
def xY : List (Nat × Ent) := (7, .sum N8) :: uT
def xZ (b : List Int) : Done := ⟨[b.length <= 1000000000], .tup [.of false dJ (U.ay b).1, .of false bI (U.ay b).2.1, one (.int .i64 (U.ay b).2.2)], [], []⟩
def Oa : Vc.Sum := .pure [aG] true fun x => xZ x
def Ob (b : List Int) : Nat -> List V -> Nat -> Option Vc.Loop := dw
def x9 : List (Nat × Ent) := (17, .sum Oa) :: xY
def yg (c : Chain) (b : List Int) : Done := ⟨[b.length <= 1000000000], .tup [.of false dJ (U.aK c b).1, .of false bI (U.aK c b).2.1, one (.int .i64 (U.aK c b).2.2)], [], []⟩
def Oc : Vc.Sum := .pure [dJ, aG] true fun x => yg x.1 x.2
def Oe (c : Chain) (b : List Int) : Nat -> List V -> Nat -> Option Vc.Loop := dw
def yh : List (Nat × Ent) := (8, .sum Oc) :: x9
end Go.Proofs.YtkhdeldobekciaaDoor
set_option maxRecDepth 100000
set_option linter.unusedVariables false
namespace Go.Proofs.YtkhdeldobekciaaDoor
open Go.Vc
def y9 (c : Chain) : Prop := (bif decide (c.2 >= (0 : Int)) then decide (c.2 <= (1099511627776 : Int)) else false) = U.jD c /\ True
def Ie (c : Chain) (b : List Int) : Prop := b.length <= (1000000000000 : Nat) /\ U.sum b = (U.jI c b).1 /\ IntKind.i64.wrap (c.2.add (1 : Int)) = (U.jI c b).2 /\ True
def BH (c : Chain) (e : Event) : Prop := (U.cO e).length <= (1000000000000 : Nat) /\ (U.eTo e).length <= (1000000000000 : Nat) /\ bif bif (U.dP e).2 != (0 : Int) then true else !U.jD c then [] = (U.aF c e).1 /\ [(0 : Int), (0 : Int), (0 : Int), (0 : Int), (0 : Int), (0 : Int), (0 : Int), (0 : Int), (0 : Int), (0 : Int), (0 : Int), (0 : Int), (0 : Int), (0 : Int), (0 : Int), (0 :
 Int), (0 : Int), (0 : Int), (0 : Int), (0 : Int), (0 : Int), (0 : Int), (0 : Int), (0 : Int), (0 : Int), (0 : Int), (0 : Int), (0 : Int), (0 : Int), (0 : Int), (0 : Int), (0 : Int)] = (U.aF c e).2.1.1 /\ (0 : Int) = (U.aF c e).2.1.2 /\ (1 : Int) = (U.aF c e).2.2 /\ True else bif decide (c.2 = (1099511627776 : Int)) then [] = (U.aF c e).1 /\ [(0 : Int), (0 : Int), (0 : Int), (0 :
 Int), (0 : Int), (0 : Int), (0 : Int), (0 : Int), (0 : Int), (0 : Int), (0 : Int), (0 : Int), (0 : Int), (0 : Int), (0 : Int), (0 : Int), (0 : Int), (0 : Int), (0 : Int), (0 : Int), (0 : Int), (0 : Int), (0 : Int), (0 : Int), (0 : Int), (0 : Int), (0 : Int), (0 : Int), (0 : Int), (0 : Int), (0 : Int), (0 : Int)] = (U.aF c e).2.1.1 /\ (0 : Int) = (U.aF c e).2.1.2 /\ (15 : Int) = (U.aF c
 e).2.2 /\ True else (0 : Int) <= (0 : Int) /\ (0 : Int) <= (↑(32 : Nat) : Int) /\ (↑(32 : Nat) : Int) <= (↑(32 : Nat) : Int) /\ (List.take ((↑(32 : Nat) : Int).toNat.sub (0 : Nat)) (List.drop (0 : Nat) c.1)).length <= (1000000000000 : Nat) /\ (1 : Nat) <= (100000000000 : Nat) /\ (((List.take ((↑(32 : Nat) : Int).toNat.sub (0 : Nat)) (List.drop (0 : Nat) c.1)).append (U.nums ([(0 : Int)].set (0 : Nat)
 (IntKind.i64.wrap (c.2.add (1 : Int)))))).append ((U.dP e).1.append [])).length <= (70000000000000 : Nat) /\ (((List.take ((↑(32 : Nat) : Int).toNat.sub (0 : Nat)) (List.drop (0 : Nat) c.1)).append (U.nums ([(0 : Int)].set (0 : Nat) (IntKind.i64.wrap (c.2.add (1 : Int)))))).append ((U.dP e).1.append [])).length <= (1000000000000 : Nat) /\ ((List.take ((↑(32 : Nat) : Int).toNat.sub (0 : Nat))
 (List.drop (0 : Nat) c.1)).append (U.nums ([(0 : Int)].set (0 : Nat) (IntKind.i64.wrap (c.2.add (1 : Int)))))).append ((U.dP e).1.append []) = (U.aF c e).1 /\ (U.jI c (((List.take ((↑(32 : Nat) : Int).toNat.sub (0 : Nat)) (List.drop (0 : Nat) c.1)).append (U.nums ([(0 : Int)].set (0 : Nat) (IntKind.i64.wrap (c.2.add (1 : Int)))))).append ((U.dP e).1.append []))).1 = (U.aF c
 e).2.1.1 /\ (U.jI c (((List.take ((↑(32 : Nat) : Int).toNat.sub (0 : Nat)) (List.drop (0 : Nat) c.1)).append (U.nums ([(0 : Int)].set (0 : Nat) (IntKind.i64.wrap (c.2.add (1 : Int)))))).append ((U.dP e).1.append []))).2 = (U.aF c e).2.1.2 /\ (0 : Int) = (U.aF c e).2.2 /\ True
def BI (b : List Int) : Prop := bif decide ((↑b.length : Int) < (32 : Int)) then [(0 : Int), (0 : Int), (0 : Int), (0 : Int), (0 : Int), (0 : Int), (0 : Int), (0 : Int), (0 : Int), (0 : Int), (0 : Int), (0 : Int), (0 : Int), (0 : Int), (0 : Int), (0 : Int), (0 : Int), (0 : Int), (0 : Int), (0 : Int), (0 : Int), (0 : Int), (0 : Int), (0 : Int), (0 : Int), (0 : Int), (0 : Int), (0 : Int),
 (0 : Int), (0 : Int), (0 : Int), (0 : Int)] = (U.ay b).1.1 /\ (0 : Int) = (U.ay b).1.2 /\ (0 : Int) = (U.ay b).2.1.1 /\ (0 : Int) = (U.ay b).2.1.2.1 /\ [] = (U.ay b).2.1.2.2.1 /\ [] = (U.ay b).2.1.2.2.2.1 /\ [] = (U.ay b).2.1.2.2.2.2.1 /\ [] = (U.ay b).2.1.2.2.2.2.2.1 /\ (0 : Int) = (U.ay b).2.1.2.2.2.2.2.2.1 /\ (0 : Int) = (U.ay b).2.1.2.2.2.2.2.2.2.1 /\ (0
 : Int) = (U.ay b).2.1.2.2.2.2.2.2.2.2.1 /\ (0 : Int) = (U.ay b).2.1.2.2.2.2.2.2.2.2.2.1 /\ [] = (U.ay b).2.1.2.2.2.2.2.2.2.2.2.2 /\ (2 : Int) = (U.ay b).2.2 /\ True else (0 : Int) <= (32 : Int) /\ (32 : Int) <= (↑b.length : Int) /\ (↑b.length : Int) <= (↑b.length : Int) /\ bif (U.gu (bif decide ((U.ak (List.take ((↑b.length : Int).toNat.sub (32 : Nat)) (List.drop (32 : Nat) b), (0 :
 Int))).1 < (1 : Int)) then true else decide ((U.ak (List.take ((↑b.length : Int).toNat.sub (32 : Nat)) (List.drop (32 : Nat) b), (0 : Int))).1 > (1099511627776 : Int))) (U.ak (List.take ((↑b.length : Int).toNat.sub (32 : Nat)) (List.drop (32 : Nat) b), (0 : Int))).2).2 != (0 : Int) then [(0 : Int), (0 : Int), (0 : Int), (0 : Int), (0 : Int), (0 : Int), (0 : Int), (0 : Int), (0 : Int), (0 :
 Int), (0 : Int), (0 : Int), (0 : Int), (0 : Int), (0 : Int), (0 : Int), (0 : Int), (0 : Int), (0 : Int), (0 : Int), (0 : Int), (0 : Int), (0 : Int), (0 : Int), (0 : Int), (0 : Int), (0 : Int), (0 : Int), (0 : Int), (0 : Int), (0 : Int), (0 : Int)] = (U.ay b).1.1 /\ (0 : Int) = (U.ay b).1.2 /\ (0 : Int) = (U.ay b).2.1.1 /\ (0 : Int) = (U.ay b).2.1.2.1 /\ [] = (U.ay b).2.1.2.2.1
 /\ [] = (U.ay b).2.1.2.2.2.1 /\ [] = (U.ay b).2.1.2.2.2.2.1 /\ [] = (U.ay b).2.1.2.2.2.2.2.1 /\ (0 : Int) = (U.ay b).2.1.2.2.2.2.2.2.1 /\ (0 : Int) = (U.ay b).2.1.2.2.2.2.2.2.2.1 /\ (0 : Int) = (U.ay b).2.1.2.2.2.2.2.2.2.2.1 /\ (0 : Int) = (U.ay b).2.1.2.2.2.2.2.2.2.2.2.1 /\ [] = (U.ay b).2.1.2.2.2.2.2.2.2.2.2.2 /\ (U.gu (bif decide ((U.ak (List.take ((↑b.length
 : Int).toNat.sub (32 : Nat)) (List.drop (32 : Nat) b), (0 : Int))).1 < (1 : Int)) then true else decide ((U.ak (List.take ((↑b.length : Int).toNat.sub (32 : Nat)) (List.drop (32 : Nat) b), (0 : Int))).1 > (1099511627776 : Int))) (U.ak (List.take ((↑b.length : Int).toNat.sub (32 : Nat)) (List.drop (32 : Nat) b), (0 : Int))).2).2 = (U.ay b).2.2 /\ True else (0 : Int) <= (40 : Int) /\ (40 : Int)
 <= (↑b.length : Int) /\ (↑b.length : Int) <= (↑b.length : Int) /\ (List.take ((↑b.length : Int).toNat.sub (40 : Nat)) (List.drop (40 : Nat) b)).length <= (1000000000 : Nat) /\ bif (U.bC (List.take ((↑b.length : Int).toNat.sub (40 : Nat)) (List.drop (40 : Nat) b))).2 != (0 : Int) then [(0 : Int), (0 : Int), (0 : Int), (0 : Int), (0 : Int), (0 : Int), (0 : Int), (0 : Int), (0 : Int), (0 : Int), (0 :
 Int), (0 : Int), (0 : Int), (0 : Int), (0 : Int), (0 : Int), (0 : Int), (0 : Int), (0 : Int), (0 : Int), (0 : Int), (0 : Int), (0 : Int), (0 : Int), (0 : Int), (0 : Int), (0 : Int), (0 : Int), (0 : Int), (0 : Int), (0 : Int), (0 : Int)] = (U.ay b).1.1 /\ (0 : Int) = (U.ay b).1.2 /\ (0 : Int) = (U.ay b).2.1.1 /\ (0 : Int) = (U.ay b).2.1.2.1 /\ [] = (U.ay b).2.1.2.2.1 /\ [] =
 (U.ay b).2.1.2.2.2.1 /\ [] = (U.ay b).2.1.2.2.2.2.1 /\ [] = (U.ay b).2.1.2.2.2.2.2.1 /\ (0 : Int) = (U.ay b).2.1.2.2.2.2.2.2.1 /\ (0 : Int) = (U.ay b).2.1.2.2.2.2.2.2.2.1 /\ (0 : Int) = (U.ay b).2.1.2.2.2.2.2.2.2.2.1 /\ (0 : Int) = (U.ay b).2.1.2.2.2.2.2.2.2.2.2.1 /\ [] = (U.ay b).2.1.2.2.2.2.2.2.2.2.2.2 /\ (U.bC (List.take ((↑b.length : Int).toNat.sub (40 : Nat))
 (List.drop (40 : Nat) b))).2 = (U.ay b).2.2 /\ True else (32 : Nat) <= b.length /\ List.take (32 : Nat) b = (U.ay b).1.1 /\ IntKind.i64.wrap ((U.ak (List.take ((↑b.length : Int).toNat.sub (32 : Nat)) (List.drop (32 : Nat) b), (0 : Int))).1.sub (1 : Int)) = (U.ay b).1.2 /\ (U.bC (List.take ((↑b.length : Int).toNat.sub (40 : Nat)) (List.drop (40 : Nat) b))).1.1 = (U.ay b).2.1.1 /\
 (U.bC (List.take ((↑b.length : Int).toNat.sub (40 : Nat)) (List.drop (40 : Nat) b))).1.2.1 = (U.ay b).2.1.2.1 /\ (U.bC (List.take ((↑b.length : Int).toNat.sub (40 : Nat)) (List.drop (40 : Nat) b))).1.2.2.1 = (U.ay b).2.1.2.2.1 /\ (U.bC (List.take ((↑b.length : Int).toNat.sub (40 : Nat)) (List.drop (40 : Nat) b))).1.2.2.2.1 = (U.ay b).2.1.2.2.2.1 /\ (U.bC (List.take ((↑b.length :
 Int).toNat.sub (40 : Nat)) (List.drop (40 : Nat) b))).1.2.2.2.2.1 = (U.ay b).2.1.2.2.2.2.1 /\ (U.bC (List.take ((↑b.length : Int).toNat.sub (40 : Nat)) (List.drop (40 : Nat) b))).1.2.2.2.2.2.1 = (U.ay b).2.1.2.2.2.2.2.1 /\ (U.bC (List.take ((↑b.length : Int).toNat.sub (40 : Nat)) (List.drop (40 : Nat) b))).1.2.2.2.2.2.2.1 = (U.ay b).2.1.2.2.2.2.2.2.1 /\ (U.bC (List.take
 ((↑b.length : Int).toNat.sub (40 : Nat)) (List.drop (40 : Nat) b))).1.2.2.2.2.2.2.2.1 = (U.ay b).2.1.2.2.2.2.2.2.2.1 /\ (U.bC (List.take ((↑b.length : Int).toNat.sub (40 : Nat)) (List.drop (40 : Nat) b))).1.2.2.2.2.2.2.2.2.1 = (U.ay b).2.1.2.2.2.2.2.2.2.2.1 /\ (U.bC (List.take ((↑b.length : Int).toNat.sub (40 : Nat)) (List.drop (40 : Nat) b))).1.2.2.2.2.2.2.2.2.2.1 = (U.ay
 b).2.1.2.2.2.2.2.2.2.2.2.1 /\ (U.bC (List.take ((↑b.length : Int).toNat.sub (40 : Nat)) (List.drop (40 : Nat) b))).1.2.2.2.2.2.2.2.2.2.2 = (U.ay b).2.1.2.2.2.2.2.2.2.2.2.2 /\ (0 : Int) = (U.ay b).2.2 /\ True
def BJ (c : Chain) (b : List Int) : Prop := b.length <= (1000000000 : Nat) /\ bif (U.ay b).2.2 != (0 : Int) then [(0 : Int), (0 : Int), (0 : Int), (0 : Int), (0 : Int), (0 : Int), (0 : Int), (0 : Int), (0 : Int), (0 : Int), (0 : Int), (0 : Int), (0 : Int), (0 : Int), (0 : Int), (0 : Int), (0 : Int), (0 : Int), (0 : Int), (0 : Int), (0 : Int), (0 : Int), (0 : Int), (0 : Int), (0 :
 Int), (0 : Int), (0 : Int), (0 : Int), (0 : Int), (0 : Int), (0 : Int), (0 : Int)] = (U.aK c b).1.1 /\ (0 : Int) = (U.aK c b).1.2 /\ (0 : Int) = (U.aK c b).2.1.1 /\ (0 : Int) = (U.aK c b).2.1.2.1 /\ [] = (U.aK c b).2.1.2.2.1 /\ [] = (U.aK c b).2.1.2.2.2.1 /\ [] = (U.aK c b).2.1.2.2.2.2.1 /\ [] = (U.aK c b).2.1.2.2.2.2.2.1 /\ (0 : Int) = (U.aK c
 b).2.1.2.2.2.2.2.2.1 /\ (0 : Int) = (U.aK c b).2.1.2.2.2.2.2.2.2.1 /\ (0 : Int) = (U.aK c b).2.1.2.2.2.2.2.2.2.2.1 /\ (0 : Int) = (U.aK c b).2.1.2.2.2.2.2.2.2.2.2.1 /\ [] = (U.aK c b).2.1.2.2.2.2.2.2.2.2.2.2 /\ (U.ay b).2.2 = (U.aK c b).2.2 /\ True else bif !((U.ay b).1.1.beq c.1 && (decide ((U.ay b).1.2 = c.2) && true)) then [(0 : Int), (0 : Int), (0 : Int), (0 :
 Int), (0 : Int), (0 : Int), (0 : Int), (0 : Int), (0 : Int), (0 : Int), (0 : Int), (0 : Int), (0 : Int), (0 : Int), (0 : Int), (0 : Int), (0 : Int), (0 : Int), (0 : Int), (0 : Int), (0 : Int), (0 : Int), (0 : Int), (0 : Int), (0 : Int), (0 : Int), (0 : Int), (0 : Int), (0 : Int), (0 : Int), (0 : Int), (0 : Int)] = (U.aK c b).1.1 /\ (0 : Int) = (U.aK c b).1.2 /\ (0 : Int) = (U.aK c
 b).2.1.1 /\ (0 : Int) = (U.aK c b).2.1.2.1 /\ [] = (U.aK c b).2.1.2.2.1 /\ [] = (U.aK c b).2.1.2.2.2.1 /\ [] = (U.aK c b).2.1.2.2.2.2.1 /\ [] = (U.aK c b).2.1.2.2.2.2.2.1 /\ (0 : Int) = (U.aK c b).2.1.2.2.2.2.2.2.1 /\ (0 : Int) = (U.aK c b).2.1.2.2.2.2.2.2.2.1 /\ (0 : Int) = (U.aK c b).2.1.2.2.2.2.2.2.2.2.1 /\ (0 : Int) = (U.aK c b).2.1.2.2.2.2.2.2.2.2.2.1 /\ [] =
 (U.aK c b).2.1.2.2.2.2.2.2.2.2.2.2 /\ (11 : Int) = (U.aK c b).2.2 /\ True else b.length <= (1000000000000 : Nat) /\ (U.jI c b).1 = (U.aK c b).1.1 /\ (U.jI c b).2 = (U.aK c b).1.2 /\ (U.ay b).2.1.1 = (U.aK c b).2.1.1 /\ (U.ay b).2.1.2.1 = (U.aK c b).2.1.2.1 /\ (U.ay b).2.1.2.2.1 = (U.aK c b).2.1.2.2.1 /\ (U.ay b).2.1.2.2.2.1 = (U.aK c
 b).2.1.2.2.2.1 /\ (U.ay b).2.1.2.2.2.2.1 = (U.aK c b).2.1.2.2.2.2.1 /\ (U.ay b).2.1.2.2.2.2.2.1 = (U.aK c b).2.1.2.2.2.2.2.1 /\ (U.ay b).2.1.2.2.2.2.2.2.1 = (U.aK c b).2.1.2.2.2.2.2.2.1 /\ (U.ay b).2.1.2.2.2.2.2.2.2.1 = (U.aK c b).2.1.2.2.2.2.2.2.2.1 /\ (U.ay b).2.1.2.2.2.2.2.2.2.2.1 = (U.aK c b).2.1.2.2.2.2.2.2.2.2.1 /\ (U.ay
 b).2.1.2.2.2.2.2.2.2.2.2.1 = (U.aK c b).2.1.2.2.2.2.2.2.2.2.2.1 /\ (U.ay b).2.1.2.2.2.2.2.2.2.2.2.2 = (U.aK c b).2.1.2.2.2.2.2.2.2.2.2.2 /\ (0 : Int) = (U.aK c b).2.2 /\ True
end Go.Proofs.YtkhdeldobekciaaDoor
set_option linter.unusedSimpArgs false
set_option linter.unusedVariables false
set_option maxRecDepth 100000
namespace Go.Proofs.YtkhdeldobekciaaDoor
open Go.Vc
open Go.Vc.T
theorem U4 (c : Chain) : y9 c := by
 unfold y9 U.jD; rw [dA]; exact ⟨rfl, trivial⟩
theorem U5 (c : Chain) (b : List Int) (h : b.length <= 1000000000000) : Ie c b := ⟨h, rfl, rfl, trivial⟩
theorem aan {e : Event} (h : U.aX e = true) : (U.mW e).length <= 50000 := by rw [<- ZI]; exact Zz h 9
theorem zH {c : Chain} {e : Event} (h : (!(U.aX e) || !(U.jD c)) = true) : U.aF c e = ([], U.kV, 1) := by unfold U.aF; rw [h]; rfl
theorem EO {c : Chain} {e : Event} (h1 : U.aX e = true) (h2 : U.jD c = true) (h : c.2 = 1099511627776) : U.aF c e = ([], U.kV, 15) := by unfold U.aF; rw [h1, h2, decide_eq_true h]; rfl
theorem Jz {c : Chain} {e : Event} (h1 : U.aX e = true) (h2 : U.jD c = true) (h : ¬ c.2 = 1099511627776) : U.aF c e = (U.fJ c e, U.jI c (U.fJ c e), 0) := by unfold U.aF; rw [h1, h2, decide_eq_false h]; rfl
theorem chR {c : Chain} (h : U.jD c = true) : 0 <= c.2 /\ c.2 <= 1099511627776 := by
 unfold U.jD at h; simpa using h
theorem aao {c : Chain} {e : Event} (hl : c.1.length = 32) : (U.fJ c e).length = 40 + (U.mW e).length := by
 unfold U.fJ; rw [List.length_append, List.length_append, dM, hl]; omega
theorem kW (k : Nat) (n : Int) : ∀ x ∈ U.beN k n, Byte x := by
 intro x hx
 obtain ⟨j, hj, rfl⟩ := List.mem_iff_getElem.1 hx
 rw [UN]
 generalize n / 2 ^ (8 * (k - 1 - j)) = z
 exact ⟨by omega, by omega⟩
theorem JA {s : List Int} (h : ∀ x ∈ s, Byte x) : ∀ x ∈ U.text1 s, Byte x := by
 intro x hx
 unfold U.text1 at hx
 rw [List.mem_append] at hx
 rcases hx with hx | hx
 ·exact kW _ _ x hx
 ·exact h x (List.mem_of_mem_take hx)
theorem aeu (l : List Int) : ∀ x ∈ U.nums l, Byte x := by
 intro x hx
 unfold U.nums at hx
 obtain ⟨y, _, hy⟩ := List.mem_flatMap.1 hx
 exact kW _ _ x hy
theorem adv (l : List Range) : ∀ x ∈ U.pairs l, Byte x := by
 intro x hx
 unfold U.pairs at hx
 obtain ⟨y, _, hy⟩ := List.mem_flatMap.1 hx
 rcases List.mem_append.1 hy with hy | hy <;> exact kW _ _ x hy
theorem aev {e : Event} (he : Valid bI e) (c : Int) : ∀ x ∈ U.jF c e, Byte x := by
 have key : ∀ (b : Bool) (p q : List Int), (∀ x ∈ p, Byte x) -> (∀ x ∈ q, Byte x) -> ∀ x ∈ cond b p q, Byte x := by intro b p q h1 h2; cases b <;> assumption
 have hn : ∀ (n : Int) (q : List Int), (∀ x ∈ q, Byte x) -> ∀ x ∈ U.num1 n ++ q, Byte x := by
  intro n q h x hx
  rcases List.mem_append.1 hx with hx | hx
  ·exact kW _ _ x hx
  ·exact h x hx
 have hb : ∀ x ∈ U.cO e, Byte x := he.2.2.1.1
 have ht : ∀ x ∈ U.eTo e, Byte x := he.2.2.2.1.1
 have hy : ∀ x ∈ U.gW e, Byte x := lI he.2.2.2.2.2.2.2.2.2.2.1
 unfold U.jF
 exact key _ _ _ (JA hb) (key _ _ _ (JA ht) (key _ _ _ (hn _ _ (aeu _)) (key _ _ _ (hn _ _ (adv _)) (key _ _ _ (kW _ _) (key _ _ _ (kW _ _) (key _ _ _ (kW _ _) (key _ _ _ (kW _ _) (JA hy))))))))
theorem aew {e : Event} (he : Valid bI e) : ∀ x ∈ U.mW e, Byte x := by
 intro x hx
 unfold U.mW at hx
 rcases List.mem_append.1 hx with hx | hx
 ·exact kW _ _ x hx
 rcases List.mem_append.1 hx with hx | hx
 ·exact kW _ _ x hx
 obtain ⟨c, _, hc⟩ := List.mem_flatMap.1 hx
 exact aev he c x hc
theorem aex {c : Chain} {e : Event} (hc : ∀ x ∈ c.1, Byte x) (he : Valid bI e) : ∀ x ∈ U.fJ c e, Byte x := by
 intro x hx
 unfold U.fJ at hx
 rcases List.mem_append.1 hx with hx | hx
 ·exact hc x hx
 rcases List.mem_append.1 hx with hx | hx
 ·exact kW _ _ x hx
 ·exact aew he x hx
theorem QT {α : Type} (l : List α) {k : Nat} (h : l.length <= k) : l.take k = l := List.take_of_length_le h
theorem Xk {b : List Int} (h : b.length < 32) : U.ay b = (U.kV, U.zeroE, 2) := by unfold U.ay; rw [decide_eq_true h]; rfl
theorem aap {b : List Int} (h : ¬ b.length < 32) (h2 : ¬ (U.gG b).2.2 = 0) : U.ay b = (U.kV, U.zeroE, (U.gG b).2.2) := by unfold U.ay; rw [decide_eq_false h, decide_eq_false h2]; rfl
theorem adw {b : List Int} (h : ¬ b.length < 32) (h2 : (U.gG b).2.2 = 0) (h3 : ¬ (U.bC (b.drop 40)).2 = 0) : U.ay b = (U.kV, U.zeroE, (U.bC (b.drop 40)).2) := by unfold U.ay; rw [decide_eq_false h, decide_eq_true h2, decide_eq_false h3]; rfl
theorem adx {b : List Int} (h : ¬ b.length < 32) (h2 : (U.gG b).2.2 = 0) (h3 : (U.bC (b.drop 40)).2 = 0) : U.ay b = ((b.take 32, (U.gG b).1 - 1), (U.bC (b.drop 40)).1, 0) := by unfold U.ay; rw [decide_eq_false h, decide_eq_true h2, decide_eq_true h3]; rfl
theorem ady {b : List Int} (h : ¬ b.length < 32) (h2 : (U.gG b).2.2 = 0) : 40 <= b.length /\ (U.gG b).2.1 = b.drop 40 /\ 1 <= (U.gG b).1 /\ (U.gG b).1 <= 1099511627776 := by
 have hd : (b.drop 32).drop 8 = b.drop 40 := by rw [List.drop_drop]
 have hl : (b.drop 32).length = b.length - 32 := List.length_drop
 unfold U.gG U.gu at *
 simp only [] at *
 unfold U.ak at *
 simp only [decide_true, cond_true] at *
 by_cases h8 : (b.drop 32).length < 8
 ·rw [decide_eq_true h8] at h2; simp at h2
 ·rw [decide_eq_false h8] at h2 ⊢
  simp only [cond_false] at h2 ⊢
  by_cases hv : U.aN ((b.drop 32).take 8) > 4611686018427387904
  ·rw [decide_eq_true hv] at h2; simp at h2
  ·rw [decide_eq_false hv] at h2 ⊢
   simp only [cond_false, decide_true, Bool.true_and] at h2 ⊢
   cases hb : (decide (U.aN ((b.drop 32).take 8) < 1) || decide (U.aN ((b.drop 32).take 8) > 1099511627776)) with
   | true => rw [hb] at h2; simp at h2
   | false =>
     simp only [Bool.or_eq_false_iff, decide_eq_false_iff_not] at hb
     simp only [cond_false]
     exact ⟨by omega, hd, by omega, by omega⟩
theorem abU (b : List Int) (k : Nat) : List.take ((b.length : Int).toNat.sub k) (List.drop k b) = b.drop k := XK b k
theorem Xl (c : Chain) (e : Event) (hv : oP [dJ, bI] (c, e)) (h1 : (U.cO e).length <= 1000000000000) (h2 : (U.eTo e).length <= 1000000000000) : BH c e := by
 unfold BH
 have hl : c.1.length = 32 := hv.1.1.2
 refine ⟨h1, h2, ?_⟩
 rw [dW]
 cases hr : U.aX e with
 | false => rw [ZC hr, zH (by rw [hr]; rfl)]; exact ⟨rfl, rfl, rfl, rfl, trivial⟩
 | true =>
   rw [TQ hr]
   cases hc : U.jD c with
   | false => rw [zH (by rw [hc]; simp)]; exact ⟨rfl, rfl, rfl, rfl, trivial⟩
   | true =>
     obtain ⟨hc0, hc1⟩ := chR hc
     by_cases hm : c.2 = 1099511627776
     ·rw [decide_eq_true hm, EO hr hc hm]; exact ⟨rfl, rfl, rfl, rfl, trivial⟩
     ·rw [decide_eq_false hm, Jz hr hc hm]
      have hle := aan hr
      have hB : ((List.take ((↑(32 : Nat) : Int).toNat.sub 0) (List.drop 0 c.1)).append (U.nums ([(0 : Int)].set 0 (IntKind.i64.wrap (c.2.add 1))))).append ((U.mW e).append []) = U.fJ c e := by
       rw [show List.take ((↑(32 : Nat) : Int).toNat.sub 0) (List.drop 0 c.1) = c.1 from QT c.1 (Nat.le_of_eq hl)]
       unfold U.fJ
       rw [bG, bQ (x := c.2 + 1) (by omega) (by omega)]
       simp only [dn, List.append_nil, List.append_assoc]
       congr 2
       show U.nums [c.2 + 1] = _
       simp [U.nums]
      have hlen := aao (c := c) (e := e) hl
      show (0 : Int) <= 0 /\ _
      rw [hB]
      refine ⟨by omega, by omega, by omega, ?_, by omega, by omega, by omega, rfl, rfl, rfl, rfl, trivial⟩
      rw [show List.take ((↑(32 : Nat) : Int).toNat.sub 0) (List.drop 0 c.1) = c.1 from QT c.1 (Nat.le_of_eq hl)]; omega
theorem Xm (b : List Int) (hb : ∀ x ∈ b, Valid (.int .u8) x) (hl : b.length <= 1000000000) : BI b := by
 unfold BI
 simp only [abU]
 by_cases h32 : b.length < 32
 ·rw [decide_eq_true (by omega : (b.length : Int) < 32), Xk h32]; (repeat' apply And.intro) <;> first | rfl | trivial
 ·rw [decide_eq_false (by omega : ¬ (b.length : Int) < 32)]
  refine ⟨by omega, by omega, by omega, ?_⟩
  rw [dW]
  show bif (U.gG b).2.2 != 0 then _ else _
  by_cases h0 : (U.gG b).2.2 = 0
  ·obtain ⟨g1, g2, g3, g4⟩ := ady h32 h0
   rw [h0]
   show (0 : Int) <= 40 /\ _
   refine ⟨by omega, by omega, by omega, by rw [List.length_drop]; omega, ?_⟩
   by_cases hd : (U.bC (b.drop 40)).2 = 0
   ·rw [hd, adx h32 h0 hd]
    have hw : IntKind.i64.wrap ((U.ak (b.drop 32, 0)).1.sub 1) = (U.gG b).1 - 1 := bQ (x := (U.gG b).1 - 1) (by omega) (by omega)
    rw [hw]
    refine ⟨by omega, rfl, rfl, ?_⟩
    (repeat' apply And.intro) <;> first | rfl | trivial
   ·rw [adw h32 h0 hd, show ((U.bC (b.drop 40)).2 != 0) = true from bne_iff_ne.2 hd]
    (repeat' apply And.intro) <;> first | rfl | trivial
  ·rw [aap h32 h0, show ((U.gG b).2.2 != 0) = true from bne_iff_ne.2 h0]
   (repeat' apply And.intro) <;> first | rfl | trivial
theorem abB {c : Chain} {b : List Int} (h : ¬ (U.ay b).2.2 = 0) : U.aK c b = (U.kV, U.zeroE, (U.ay b).2.2) := by unfold U.aK; rw [decide_eq_false h]; rfl
theorem adz {c : Chain} {b : List Int} (h : (U.ay b).2.2 = 0) (h2 : ¬ (U.ay b).1 = c) : U.aK c b = (U.kV, U.zeroE, 11) := by unfold U.aK; rw [decide_eq_true h, decide_eq_false h2]; rfl
theorem adA {c : Chain} {b : List Int} (h : (U.ay b).2.2 = 0) (h2 : (U.ay b).1 = c) : U.aK c b = (U.jI c b, (U.ay b).2.1, 0) := by unfold U.aK; rw [decide_eq_true h, decide_eq_true h2]; rfl
theorem aey (x c : Chain) : (x.1.beq c.1 && (decide (x.2 = c.2) && true)) = decide (x = c) := by
 rw [afN, Bool.eq_iff_iff]
 simp only [Bool.and_true, Bool.and_eq_true, decide_eq_true_eq]
 constructor
 ·rintro ⟨h1, h2⟩; exact Prod.ext h1 h2
 ·rintro rfl; exact ⟨rfl, rfl⟩
theorem Xn (c : Chain) (b : List Int) (hv : oP [dJ, aG] (c, b)) (hl : b.length <= 1000000000) : BJ c b := by
 unfold BJ
 refine ⟨hl, ?_⟩
 rw [aey]
 by_cases h0 : (U.ay b).2.2 = 0
 ·rw [h0]
  by_cases he : (U.ay b).1 = c
  ·rw [decide_eq_true he, adA h0 he]
   show b.length <= 1000000000000 /\ _
   refine ⟨by omega, ?_⟩
   (repeat' apply And.intro) <;> first | rfl | trivial
  ·rw [decide_eq_false he, adz h0 he]
   (repeat' apply And.intro) <;> first | rfl | trivial
 ·rw [abB h0, show ((U.ay b).2.2 != 0) = true from bne_iff_ne.2 h0]
  (repeat' apply And.intro) <;> first | rfl | trivial
end Go.Proofs.YtkhdeldobekciaaDoor
set_option linter.unusedSimpArgs false
set_option maxRecDepth 100000
set_option linter.unusedVariables false
namespace Go.Proofs.YtkhdeldobekciaaDoor
open Go.Vc
theorem Xo (x : aI [dJ]) : bM Tryd.prog (aU Jt) (Kw x) 13 (bK [dJ] x) [] (BG x) = y9 x := by kernel_rfl
theorem Xp : Pok 13 [dJ] (fun x => BG x) := by
 refine pk (L := fun x => Kw x) (l := Jt) VU (fun _ => rfl) ?_
 intro x hv hp
 rw [Xo]
 exact U4 x
theorem Xq : aY Tryd.prog gl 13 Kv := Xp
theorem Ig : aS uQ := .cons Xq VU
theorem Xr (x : aI [dJ, aG]) : bM Tryd.prog (aU uQ) (Kz x.1 x.2) 16 (bK [dJ, aG] x) [] (uS x.1 x.2) = Ie x.1 x.2 := by kernel_rfl
theorem Xt : Pok 16 [dJ, aG] (fun x => uS x.1 x.2) := by
 refine pk (L := fun x => Kz x.1 x.2) (l := uQ) Ig (fun _ => rfl) ?_
 intro x hv hp
 rw [Xr]
 exact U5 x.1 x.2 (hp (List.length x.2 <= 1000000000000) (by simp [uS]))
theorem Xu : aY Tryd.prog gl 16 Ky := Xt
theorem Ih : aS uT := .cons Xu Ig
theorem aaq (x : aI [dJ, bI]) : bM Tryd.prog (aU uT) (N9 x.1 x.2) 7 (bK [dJ, bI] x) [] (rE x.1 x.2) = BH x.1 x.2 := by kernel_rfl
theorem aar : Pok 7 [dJ, bI] (fun x => rE x.1 x.2) := by
 refine pk (L := fun x => N9 x.1 x.2) (l := uT) Ih (fun _ => rfl) ?_
 intro x hv hp
 rw [aaq]
 exact Xl x.1 x.2 hv (hp (List.length (U.cO x.2) <= 1000000000000) (by simp [rE])) (hp (List.length (U.eTo x.2) <= 1000000000000) (by simp [rE]))
theorem aas : aY Tryd.prog gl 7 N8 := aar
theorem KA : aS xY := .cons aas Ih
theorem aat (x : aI [aG]) : bM Tryd.prog (aU xY) (Ob x) 17 (bK [aG] x) [] (xZ x) = BI x := by kernel_rfl
theorem aau : Pok 17 [aG] (fun x => xZ x) := by
 refine pk (L := fun x => Ob x) (l := xY) KA (fun _ => rfl) ?_
 intro x hv hp
 rw [aat]
 exact Xm x hv.1 (hp (List.length x <= 1000000000) (by simp [xZ]))
theorem aav : aY Tryd.prog gl 17 Oa := aau
theorem KC : aS x9 := .cons aav KA
theorem aaw (x : aI [dJ, aG]) : bM Tryd.prog (aU x9) (Oe x.1 x.2) 8 (bK [dJ, aG] x) [] (yg x.1 x.2) = BJ x.1 x.2 := by kernel_rfl
theorem aax : Pok 8 [dJ, aG] (fun x => yg x.1 x.2) := by
 refine pk (L := fun x => Oe x.1 x.2) (l := x9) KC (fun _ => rfl) ?_
 intro x hv hp
 rw [aaw]
 exact Xn x.1 x.2 hv (hp (List.length x.2 <= 1000000000) (by simp [yg]))
theorem aay : aY Tryd.prog gl 8 Oc := aax
theorem KD : aS yh := .cons aay KC
end Go.Proofs.YtkhdeldobekciaaDoor
