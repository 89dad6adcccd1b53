/- What functions of this seat compute, in plain Lean. -/
import Derived.Test.YtkhdeldobekciaaGreatDoorMN
set_option linter.unusedVariables false
set_option linter.unusedSimpArgs false
set_option maxRecDepth 100000
namespace Go.Proofs.YtkhdeldobekciaaGreatDoor
open Go.Vc
def Ib  : Done := ⟨[], .one (.bool true), [], []⟩
def QW : Vc.Sum := .pure [] false fun _ => Ib
def QX  : Nat -> List V -> Nat -> Option Vc.Loop := bZ
def Ic : List (Nat × Ent) := (5, .sum QW) :: BI
def Dn (c : Chain) (e : Event) : Nat -> List V -> Nat -> Option Vc.Loop := bZ
end Go.Proofs.YtkhdeldobekciaaGreatDoor
set_option maxRecDepth 100000
set_option linter.unusedVariables false
namespace Go.Proofs.YtkhdeldobekciaaGreatDoor
open Go.Vc
def Ef : Prop := (0 : Nat) <= (1000000000000 : Nat) /\ (0 : Nat) <= (1000000000000 : Nat) /\ (((((((((((((((((((((((((((((((((U.num1 (Int.add (0 : Int) (1 : Int))).append (U.qc ((13 : Int), (7 : Int), [], [], [], [], (0 : Int), (0 : Int), (0 : Int), (3 : Int), []))).length.add (1 : Nat)).add (1 : Nat)).add (1 : Nat)).add (1 : Nat)).add (1 : Nat)).add (1 : Nat)).add (1 : Nat)).add (1 :
 Nat)).add (1 : Nat)).add (1 : Nat)).add (1 : Nat)).add (1 : Nat)).add (1 : Nat)).add (1 : Nat)).add (1 : Nat)).add (1 : Nat)).add (1 : Nat)).add (1 : Nat)).add (1 : Nat)).add (1 : Nat)).add (1 : Nat)).add (1 : Nat)).add (1 : Nat)).add (1 : Nat)).add (1 : Nat)).add (1 : Nat)).add (1 : Nat)).add (1 : Nat)).add (1 : Nat)).add (1 : Nat)).add (1 : Nat)).add (1 : Nat) <= (1000000000 : Nat) /\
 (((((((((((((((((((((((((((((((((U.num1 (Int.add (0 : Int) (1 : Int))).append (U.qc ((13 : Int), (7 : Int), [], [], [], [], (0 : Int), (0 : Int), (0 : Int), (3 : Int), []))).length.add (1 : Nat)).add (1 : Nat)).add (1 : Nat)).add (1 : Nat)).add (1 : Nat)).add (1 : Nat)).add (1 : Nat)).add (1 : Nat)).add (1 : Nat)).add (1 : Nat)).add (1 : Nat)).add (1 : Nat)).add (1 : Nat)).add (1 : Nat)).add (1 :
 Nat)).add (1 : Nat)).add (1 : Nat)).add (1 : Nat)).add (1 : Nat)).add (1 : Nat)).add (1 : Nat)).add (1 : Nat)).add (1 : Nat)).add (1 : Nat)).add (1 : Nat)).add (1 : Nat)).add (1 : Nat)).add (1 : Nat)).add (1 : Nat)).add (1 : Nat)).add (1 : Nat)).add (1 : Nat) <= (1000000000 : Nat) /\ ((bif bif bif decide ((U.aJ ([(0 : Int), (0 : Int), (0 : Int), (0 : Int), (0 : Int), (0 : Int), (0 : Int), (0 :
 Int), (0 : Int), (0 : Int), (0 : Int), (0 : Int), (0 : Int), (0 : Int), (0 : Int), (0 : Int), (0 : Int), (0 : Int), (0 : Int), (0 : Int), (0 : Int), (0 : Int), (0 : Int), (0 : Int), (0 : Int), (0 : Int), (0 : Int), (0 : Int), (0 : Int), (0 : Int), (0 : Int), (0 : Int)], (0 : Int)) ((13 : Int), (7 : Int), [], [], [], [], (0 : Int), (0 : Int), (0 : Int), (3 : Int), [])).2.2 = (0 : Int)) then decide
 ((U.aO ([(0 : Int), (0 : Int), (0 : Int), (0 : Int), (0 : Int), (0 : Int), (0 : Int), (0 : Int), (0 : Int), (0 : Int), (0 : Int), (0 : Int), (0 : Int), (0 : Int), (0 : Int), (0 : Int), (0 : Int), (0 : Int), (0 : Int), (0 : Int), (0 : Int), (0 : Int), (0 : Int), (0 : Int), (0 : Int), (0 : Int), (0 : Int), (0 : Int), (0 : Int), (0 : Int), (0 : Int), (0 : Int)], (0 : Int)) (U.aJ ([(0 : Int),
 (0 : Int), (0 : Int), (0 : Int), (0 : Int), (0 : Int), (0 : Int), (0 : Int), (0 : Int), (0 : Int), (0 : Int), (0 : Int), (0 : Int), (0 : Int), (0 : Int), (0 : Int), (0 : Int), (0 : Int), (0 : Int), (0 : Int), (0 : Int), (0 : Int), (0 : Int), (0 : Int), (0 : Int), (0 : Int), (0 : Int), (0 : Int), (0 : Int), (0 : Int), (0 : Int), (0 : Int)], (0 : Int)) ((13 : Int), (7 : Int), [], [], [], [], (0 :
 Int), (0 : Int), (0 : Int), (3 : Int), [])).1).2.2 = (0 : Int)) else false then decide ((U.aO (U.aJ ([(0 : Int), (0 : Int), (0 : Int), (0 : Int), (0 : Int), (0 : Int), (0 : Int), (0 : Int), (0 : Int), (0 : Int), (0 : Int), (0 : Int), (0 : Int), (0 : Int), (0 : Int), (0 : Int), (0 : Int), (0 : Int), (0 : Int), (0 : Int), (0 : Int), (0 : Int), (0 : Int), (0 : Int), (0 : Int), (0 : Int), (0
 : Int), (0 : Int), (0 : Int), (0 : Int), (0 : Int), (0 : Int)], (0 : Int)) ((13 : Int), (7 : Int), [], [], [], [], (0 : Int), (0 : Int), (0 : Int), (3 : Int), [])).2.1 (U.aJ ([(0 : Int), (0 : Int), (0 : Int), (0 : Int), (0 : Int), (0 : Int), (0 : Int), (0 : Int), (0 : Int), (0 : Int), (0 : Int), (0 : Int), (0 : Int), (0 : Int), (0 : Int), (0 : Int), (0 : Int), (0 : Int), (0 : Int), (0 : Int),
 (0 : Int), (0 : Int), (0 : Int), (0 : Int), (0 : Int), (0 : Int), (0 : Int), (0 : Int), (0 : Int), (0 : Int), (0 : Int), (0 : Int)], (0 : Int)) ((13 : Int), (7 : Int), [], [], [], [], (0 : Int), (0 : Int), (0 : Int), (3 : Int), [])).1).2.2 = (11 : Int)) else false then decide ((↑((((((((((((((((((((((((((((((((((U.num1 (Int.add (0 : Int) (1 : Int))).append (U.qc ((13 : Int), (7 : Int), [], [],
 [], [], (0 : Int), (0 : Int), (0 : Int), (3 : Int), []))).length.add (1 : Nat)).add (1 : Nat)).add (1 : Nat)).add (1 : Nat)).add (1 : Nat)).add (1 : Nat)).add (1 : Nat)).add (1 : Nat)).add (1 : Nat)).add (1 : Nat)).add (1 : Nat)).add (1 : Nat)).add (1 : Nat)).add (1 : Nat)).add (1 : Nat)).add (1 : Nat)).add (1 : Nat)).add (1 : Nat)).add (1 : Nat)).add (1 : Nat)).add (1 : Nat)).add (1 : Nat)).add (1
 : Nat)).add (1 : Nat)).add (1 : Nat)).add (1 : Nat)).add (1 : Nat)).add (1 : Nat)).add (1 : Nat)).add (1 : Nat)).add (1 : Nat)).add (1 : Nat)) : Int) = (64 : Int)) else false) = true -> (0 : Int) <= (39 : Int)) /\ ((bif bif bif decide ((U.aJ ([(0 : Int), (0 : Int), (0 : Int), (0 : Int), (0 : Int), (0 : Int), (0 : Int), (0 : Int), (0 : Int), (0 : Int), (0 : Int), (0 : Int), (0 : Int), (0 : Int),
 (0 : Int), (0 : Int), (0 : Int), (0 : Int), (0 : Int), (0 : Int), (0 : Int), (0 : Int), (0 : Int), (0 : Int), (0 : Int), (0 : Int), (0 : Int), (0 : Int), (0 : Int), (0 : Int), (0 : Int), (0 : Int)], (0 : Int)) ((13 : Int), (7 : Int), [], [], [], [], (0 : Int), (0 : Int), (0 : Int), (3 : Int), [])).2.2 = (0 : Int)) then decide ((U.aO ([(0 : Int), (0 : Int), (0 : Int), (0 : Int), (0 : Int), (0 :
 Int), (0 : Int), (0 : Int), (0 : Int), (0 : Int), (0 : Int), (0 : Int), (0 : Int), (0 : Int), (0 : Int), (0 : Int), (0 : Int), (0 : Int), (0 : Int), (0 : Int), (0 : Int), (0 : Int), (0 : Int), (0 : Int), (0 : Int), (0 : Int), (0 : Int), (0 : Int), (0 : Int), (0 : Int), (0 : Int), (0 : Int)], (0 : Int)) (U.aJ ([(0 : Int), (0 : Int), (0 : Int), (0 : Int), (0 : Int), (0 : Int), (0 : Int), (0 :
 Int), (0 : Int), (0 : Int), (0 : Int), (0 : Int), (0 : Int), (0 : Int), (0 : Int), (0 : Int), (0 : Int), (0 : Int), (0 : Int), (0 : Int), (0 : Int), (0 : Int), (0 : Int), (0 : Int), (0 : Int), (0 : Int), (0 : Int), (0 : Int), (0 : Int), (0 : Int), (0 : Int), (0 : Int)], (0 : Int)) ((13 : Int), (7 : Int), [], [], [], [], (0 : Int), (0 : Int), (0 : Int), (3 : Int), [])).1).2.2 = (0 : Int)) else false
 then decide ((U.aO (U.aJ ([(0 : Int), (0 : Int), (0 : Int), (0 : Int), (0 : Int), (0 : Int), (0 : Int), (0 : Int), (0 : Int), (0 : Int), (0 : Int), (0 : Int), (0 : Int), (0 : Int), (0 : Int), (0 : Int), (0 : Int), (0 : Int), (0 : Int), (0 : Int), (0 : Int), (0 : Int), (0 : Int), (0 : Int), (0 : Int), (0 : Int), (0 : Int), (0 : Int), (0 : Int), (0 : Int), (0 : Int), (0 : Int)], (0 : Int))
 ((13 : Int), (7 : Int), [], [], [], [], (0 : Int), (0 : Int), (0 : Int), (3 : Int), [])).2.1 (U.aJ ([(0 : Int), (0 : Int), (0 : Int), (0 : Int), (0 : Int), (0 : Int), (0 : Int), (0 : Int), (0 : Int), (0 : Int), (0 : Int), (0 : Int), (0 : Int), (0 : Int), (0 : Int), (0 : Int), (0 : Int), (0 : Int), (0 : Int), (0 : Int), (0 : Int), (0 : Int), (0 : Int), (0 : Int), (0 : Int), (0 : Int), (0 :
 Int), (0 : Int), (0 : Int), (0 : Int), (0 : Int), (0 : Int)], (0 : Int)) ((13 : Int), (7 : Int), [], [], [], [], (0 : Int), (0 : Int), (0 : Int), (3 : Int), [])).1).2.2 = (11 : Int)) else false then decide ((↑((((((((((((((((((((((((((((((((((U.num1 (Int.add (0 : Int) (1 : Int))).append (U.qc ((13 : Int), (7 : Int), [], [], [], [], (0 : Int), (0 : Int), (0 : Int), (3 : Int), []))).length.add (1 :
 Nat)).add (1 : Nat)).add (1 : Nat)).add (1 : Nat)).add (1 : Nat)).add (1 : Nat)).add (1 : Nat)).add (1 : Nat)).add (1 : Nat)).add (1 : Nat)).add (1 : Nat)).add (1 : Nat)).add (1 : Nat)).add (1 : Nat)).add (1 : Nat)).add (1 : Nat)).add (1 : Nat)).add (1 : Nat)).add (1 : Nat)).add (1 : Nat)).add (1 : Nat)).add (1 : Nat)).add (1 : Nat)).add (1 : Nat)).add (1 : Nat)).add (1 : Nat)).add (1 : Nat)).add
 (1 : Nat)).add (1 : Nat)).add (1 : Nat)).add (1 : Nat)).add (1 : Nat)) : Int) = (64 : Int)) else false) = true -> (39 : Int) < (↑((((((((((((((((((((((((((((((((((U.num1 (Int.add (0 : Int) (1 : Int))).append (U.qc ((13 : Int), (7 : Int), [], [], [], [], (0 : Int), (0 : Int), (0 : Int), (3 : Int), []))).length.add (1 : Nat)).add (1 : Nat)).add (1 : Nat)).add (1 : Nat)).add (1 : Nat)).add (1 :
 Nat)).add (1 : Nat)).add (1 : Nat)).add (1 : Nat)).add (1 : Nat)).add (1 : Nat)).add (1 : Nat)).add (1 : Nat)).add (1 : Nat)).add (1 : Nat)).add (1 : Nat)).add (1 : Nat)).add (1 : Nat)).add (1 : Nat)).add (1 : Nat)).add (1 : Nat)).add (1 : Nat)).add (1 : Nat)).add (1 : Nat)).add (1 : Nat)).add (1 : Nat)).add (1 : Nat)).add (1 : Nat)).add (1 : Nat)).add (1 : Nat)).add (1 : Nat)).add (1 : Nat)) :
 Int)) /\ (bif bif bif bif bif bif bif decide ((U.aJ ([(0 : Int), (0 : Int), (0 : Int), (0 : Int), (0 : Int), (0 : Int), (0 : Int), (0 : Int), (0 : Int), (0 : Int), (0 : Int), (0 : Int), (0 : Int), (0 : Int), (0 : Int), (0 : Int), (0 : Int), (0 : Int), (0 : Int), (0 : Int), (0 : Int), (0 : Int), (0 : Int), (0 : Int), (0 : Int), (0 : Int), (0 : Int), (0 : Int), (0 : Int), (0 : Int), (0 : Int), (0
 : Int)], (0 : Int)) ((13 : Int), (7 : Int), [], [], [], [], (0 : Int), (0 : Int), (0 : Int), (3 : Int), [])).2.2 = (0 : Int)) then decide ((U.aO ([(0 : Int), (0 : Int), (0 : Int), (0 : Int), (0 : Int), (0 : Int), (0 : Int), (0 : Int), (0 : Int), (0 : Int), (0 : Int), (0 : Int), (0 : Int), (0 : Int), (0 : Int), (0 : Int), (0 : Int), (0 : Int), (0 : Int), (0 : Int), (0 : Int), (0 : Int), (0 :
 Int), (0 : Int), (0 : Int), (0 : Int), (0 : Int), (0 : Int), (0 : Int), (0 : Int), (0 : Int), (0 : Int)], (0 : Int)) (U.aJ ([(0 : Int), (0 : Int), (0 : Int), (0 : Int), (0 : Int), (0 : Int), (0 : Int), (0 : Int), (0 : Int), (0 : Int), (0 : Int), (0 : Int), (0 : Int), (0 : Int), (0 : Int), (0 : Int), (0 : Int), (0 : Int), (0 : Int), (0 : Int), (0 : Int), (0 : Int), (0 : Int), (0 : Int), (0 :
 Int), (0 : Int), (0 : Int), (0 : Int), (0 : Int), (0 : Int), (0 : Int), (0 : Int)], (0 : Int)) ((13 : Int), (7 : Int), [], [], [], [], (0 : Int), (0 : Int), (0 : Int), (3 : Int), [])).1).2.2 = (0 : Int)) else false then decide ((U.aO (U.aJ ([(0 : Int), (0 : Int), (0 : Int), (0 : Int), (0 : Int), (0 : Int), (0 : Int), (0 : Int), (0 : Int), (0 : Int), (0 : Int), (0 : Int), (0 : Int), (0 :
 Int), (0 : Int), (0 : Int), (0 : Int), (0 : Int), (0 : Int), (0 : Int), (0 : Int), (0 : Int), (0 : Int), (0 : Int), (0 : Int), (0 : Int), (0 : Int), (0 : Int), (0 : Int), (0 : Int), (0 : Int), (0 : Int)], (0 : Int)) ((13 : Int), (7 : Int), [], [], [], [], (0 : Int), (0 : Int), (0 : Int), (3 : Int), [])).2.1 (U.aJ ([(0 : Int), (0 : Int), (0 : Int), (0 : Int), (0 : Int), (0 : Int), (0 : Int), (0
 : Int), (0 : Int), (0 : Int), (0 : Int), (0 : Int), (0 : Int), (0 : Int), (0 : Int), (0 : Int), (0 : Int), (0 : Int), (0 : Int), (0 : Int), (0 : Int), (0 : Int), (0 : Int), (0 : Int), (0 : Int), (0 : Int), (0 : Int), (0 : Int), (0 : Int), (0 : Int), (0 : Int), (0 : Int)], (0 : Int)) ((13 : Int), (7 : Int), [], [], [], [], (0 : Int), (0 : Int), (0 : Int), (3 : Int), [])).1).2.2 = (11 : Int)) else
 false then decide ((↑((((((((((((((((((((((((((((((((((U.num1 (Int.add (0 : Int) (1 : Int))).append (U.qc ((13 : Int), (7 : Int), [], [], [], [], (0 : Int), (0 : Int), (0 : Int), (3 : Int), []))).length.add (1 : Nat)).add (1 : Nat)).add (1 : Nat)).add (1 : Nat)).add (1 : Nat)).add (1 : Nat)).add (1 : Nat)).add (1 : Nat)).add (1 : Nat)).add (1 : Nat)).add (1 : Nat)).add (1 : Nat)).add (1 :
 Nat)).add (1 : Nat)).add (1 : Nat)).add (1 : Nat)).add (1 : Nat)).add (1 : Nat)).add (1 : Nat)).add (1 : Nat)).add (1 : Nat)).add (1 : Nat)).add (1 : Nat)).add (1 : Nat)).add (1 : Nat)).add (1 : Nat)).add (1 : Nat)).add (1 : Nat)).add (1 : Nat)).add (1 : Nat)).add (1 : Nat)).add (1 : Nat)) : Int) = (64 : Int)) else false then decide ((U.aJ ([(0 : Int), (0 : Int), (0 : Int), (0 : Int), (0 :
 Int), (0 : Int), (0 : Int), (0 : Int), (0 : Int), (0 : Int), (0 : Int), (0 : Int), (0 : Int), (0 : Int), (0 : Int), (0 : Int), (0 : Int), (0 : Int), (0 : Int), (0 : Int), (0 : Int), (0 : Int), (0 : Int), (0 : Int), (0 : Int), (0 : Int), (0 : Int), (0 : Int), (0 : Int), (0 : Int), (0 : Int), (0 : Int)], (0 : Int)) ((13 : Int), (7 : Int), [], [], [], [], (0 : Int), (0 : Int), (0 : Int), (3 : Int),
 [])).1.getD (39 : Nat) (0 : Int) = (1 : Int)) else false then decide ((U.aJ ([(0 : Int), (0 : Int), (0 : Int), (0 : Int), (0 : Int), (0 : Int), (0 : Int), (0 : Int), (0 : Int), (0 : Int), (0 : Int), (0 : Int), (0 : Int), (0 : Int), (0 : Int), (0 : Int), (0 : Int), (0 : Int), (0 : Int), (0 : Int), (0 : Int), (0 : Int), (0 : Int), (0 : Int), (0 : Int), (0 : Int), (0 : Int), (0 : Int), (0 : Int),
 (0 : Int), (0 : Int), (0 : Int)], (0 : Int)) ((13 : Int), (7 : Int), [], [], [], [], (0 : Int), (0 : Int), (0 : Int), (3 : Int), [])).2.1.2 = (1 : Int)) else false then (U.aO ([(0 : Int), (0 : Int), (0 : Int), (0 : Int), (0 : Int), (0 : Int), (0 : Int), (0 : Int), (0 : Int), (0 : Int), (0 : Int), (0 : Int), (0 : Int), (0 : Int), (0 : Int), (0 : Int), (0 : Int), (0 : Int), (0 : Int), (0 : Int),
 (0 : Int), (0 : Int), (0 : Int), (0 : Int), (0 : Int), (0 : Int), (0 : Int), (0 : Int), (0 : Int), (0 : Int), (0 : Int), (0 : Int)], (0 : Int)) (U.aJ ([(0 : Int), (0 : Int), (0 : Int), (0 : Int), (0 : Int), (0 : Int), (0 : Int), (0 : Int), (0 : Int), (0 : Int), (0 : Int), (0 : Int), (0 : Int), (0 : Int), (0 : Int), (0 : Int), (0 : Int), (0 : Int), (0 : Int), (0 : Int), (0 : Int), (0 : Int), (0
 : Int), (0 : Int), (0 : Int), (0 : Int), (0 : Int), (0 : Int), (0 : Int), (0 : Int), (0 : Int), (0 : Int)], (0 : Int)) ((13 : Int), (7 : Int), [], [], [], [], (0 : Int), (0 : Int), (0 : Int), (3 : Int), [])).1).1.1.beq (U.aJ ([(0 : Int), (0 : Int), (0 : Int), (0 : Int), (0 : Int), (0 : Int), (0 : Int), (0 : Int), (0 : Int), (0 : Int), (0 : Int), (0 : Int), (0 : Int), (0 : Int), (0 : Int), (0 :
 Int), (0 : Int), (0 : Int), (0 : Int), (0 : Int), (0 : Int), (0 : Int), (0 : Int), (0 : Int), (0 : Int), (0 : Int), (0 : Int), (0 : Int), (0 : Int), (0 : Int), (0 : Int), (0 : Int)], (0 : Int)) ((13 : Int), (7 : Int), [], [], [], [], (0 : Int), (0 : Int), (0 : Int), (3 : Int), [])).2.1.1 && (decide ((U.aO ([(0 : Int), (0 : Int), (0 : Int), (0 : Int), (0 : Int), (0 : Int), (0 : Int), (0 : Int),
 (0 : Int), (0 : Int), (0 : Int), (0 : Int), (0 : Int), (0 : Int), (0 : Int), (0 : Int), (0 : Int), (0 : Int), (0 : Int), (0 : Int), (0 : Int), (0 : Int), (0 : Int), (0 : Int), (0 : Int), (0 : Int), (0 : Int), (0 : Int), (0 : Int), (0 : Int), (0 : Int), (0 : Int)], (0 : Int)) (U.aJ ([(0 : Int), (0 : Int), (0 : Int), (0 : Int), (0 : Int), (0 : Int), (0 : Int), (0 : Int), (0 : Int), (0 : Int), (0
 : Int), (0 : Int), (0 : Int), (0 : Int), (0 : Int), (0 : Int), (0 : Int), (0 : Int), (0 : Int), (0 : Int), (0 : Int), (0 : Int), (0 : Int), (0 : Int), (0 : Int), (0 : Int), (0 : Int), (0 : Int), (0 : Int), (0 : Int), (0 : Int), (0 : Int)], (0 : Int)) ((13 : Int), (7 : Int), [], [], [], [], (0 : Int), (0 : Int), (0 : Int), (3 : Int), [])).1).1.2 = (U.aJ ([(0 : Int), (0 : Int), (0 : Int), (0 :
 Int), (0 : Int), (0 : Int), (0 : Int), (0 : Int), (0 : Int), (0 : Int), (0 : Int), (0 : Int), (0 : Int), (0 : Int), (0 : Int), (0 : Int), (0 : Int), (0 : Int), (0 : Int), (0 : Int), (0 : Int), (0 : Int), (0 : Int), (0 : Int), (0 : Int), (0 : Int), (0 : Int), (0 : Int), (0 : Int), (0 : Int), (0 : Int), (0 : Int)], (0 : Int)) ((13 : Int), (7 : Int), [], [], [], [], (0 : Int), (0 : Int), (0 : Int), (3
 : Int), [])).2.1.2) && true) else false then decide ((U.aO ([(0 : Int), (0 : Int), (0 : Int), (0 : Int), (0 : Int), (0 : Int), (0 : Int), (0 : Int), (0 : Int), (0 : Int), (0 : Int), (0 : Int), (0 : Int), (0 : Int), (0 : Int), (0 : Int), (0 : Int), (0 : Int), (0 : Int), (0 : Int), (0 : Int), (0 : Int), (0 : Int), (0 : Int), (0 : Int), (0 : Int), (0 : Int), (0 : Int), (0 : Int), (0 : Int), (0 :
 Int), (0 : Int)], (0 : Int)) (U.aJ ([(0 : Int), (0 : Int), (0 : Int), (0 : Int), (0 : Int), (0 : Int), (0 : Int), (0 : Int), (0 : Int), (0 : Int), (0 : Int), (0 : Int), (0 : Int), (0 : Int), (0 : Int), (0 : Int), (0 : Int), (0 : Int), (0 : Int), (0 : Int), (0 : Int), (0 : Int), (0 : Int), (0 : Int), (0 : Int), (0 : Int), (0 : Int), (0 : Int), (0 : Int), (0 : Int), (0 : Int), (0 : Int)], (0 :
 Int)) ((13 : Int), (7 : Int), [], [], [], [], (0 : Int), (0 : Int), (0 : Int), (3 : Int), [])).1).2.1.2.2.2.2.2.2.2.2.2.1 = (3 : Int)) else false) = true /\ True
def rE (c : Chain) (e : Event) : Prop := bif U.great e then true = true /\ True else (U.cO e).length <= (1000000000000 : Nat) /\ (U.eTo e).length <= (1000000000000 : Nat) /\ (U.cO e).length <= (1000000000000 : Nat) /\ (U.eTo e).length <= (1000000000000 : Nat) /\ (bif bif bif decide ((U.aJ c e).1 = (U.aJ c e).1) then (U.aJ c e).2.1.1.beq (U.aJ c e).2.1.1 && (decide
 ((U.aJ c e).2.1.2 = (U.aJ c e).2.1.2) && true) else false then decide ((U.aJ c e).2.2 = (U.aJ c e).2.2) else false then decide (U.gJ c = U.gJ c) else false) = true /\ True
end Go.Proofs.YtkhdeldobekciaaGreatDoor
set_option linter.unusedSimpArgs false
set_option linter.unusedVariables false
set_option maxRecDepth 100000
namespace Go.Proofs.YtkhdeldobekciaaGreatDoor
open Go.Vc
open Go.Vc.T
theorem aaz : Ef := by unfold Ef; decide +kernel
theorem aii (l : List Int) : l.beq l = true := beq_self_eq_true l
theorem aiW {e : Event} (h : U.great e = false) : (U.cO e).length <= 500 /\ (U.eTo e).length <= 500 := by
 unfold U.great at h
 simp only [Bool.or_eq_false_iff, decide_eq_false_iff_not] at h
 omega
theorem Oh (c : Chain) (e : Event) : rE c e := by
 unfold rE
 rw [cond_prop]
 refine ⟨fun _ => ⟨rfl, trivial⟩, fun h => ?_⟩
 have hg : U.great e = false := by revert h; cases U.great e <;> simp
 have hgn := aiW hg
 simp only [aii, decide_true, cond_true, Bool.and_self]
 exact ⟨by omega, by omega, by omega, by omega, trivial, trivial⟩
end Go.Proofs.YtkhdeldobekciaaGreatDoor
set_option linter.unusedSimpArgs false
set_option maxRecDepth 100000
set_option linter.unusedVariables false
namespace Go.Proofs.YtkhdeldobekciaaGreatDoor
open Go.Vc
theorem adS (x : aG []) : bf Tryz.prog (aK BI) (QX ) 5 (aY [] x) [] (Ib ) = Ef  := by kernel_rfl
theorem adT : Pok 5 [] (fun x => Ib ) := by
 refine pk (L := fun x => QX ) (l := BI) QV (fun _ => rfl) ?_
 intro x hv hp
 rw [adS]
 exact aaz
theorem adU : aP Tryz.prog gl 5 QW := adT
theorem aaA : aI Ic := .cons adU QV
end Go.Proofs.YtkhdeldobekciaaGreatDoor
