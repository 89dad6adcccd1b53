/- What functions of this seat compute, in plain Lean. -/
import Derived.Test.YtkhdeldobekciaaDoorPN
set_option linter.unusedVariables false
set_option linter.unusedSimpArgs false
set_option maxRecDepth 100000
namespace Go.Proofs.YtkhdeldobekciaaDoor
open Go.Vc
namespace U
def gU (c : Chain) (e : Event) (n : Int) (i : Int) : St2 := ⟨⟨U.n 2 ++ [sP 0 0] ++ U.n 2 ++ [sL true (.int .u8) (aF c e).1] ++ [sP 1 0] ++ U.n 1 ++ [sL true (.int .u8) (dP e).1] ++ [sI (dP e).2] ++ [sI n] ++ [sI i] ++ U.n 82, [], [(0, .obj [.arr 32 true (.int .u8) c.1, .int .i64 c.2]), (1, .obj [.arr 32 true (.int .u8) (aF c e).2.1.1, .int .i64 (aF c e).2.1.2])]⟩, 2, []⟩
def jE (c : Chain) (e : Event)  (n : Int) (i : Int) : Prop := 32 <= i /\ i <= 40 /\ (aF c e).2.2 = 0 /\ n = aN (((aF c e).1.drop 32).take (i - 32).toNat)
end U
def GH (c : Chain) (e : Event) : Vc.Loop := ⟨{ keep := [2, 5, 6, 8, 9, 10, 11] }, Int × Int, fun x => U.gU c e x.1 x.2, fun x0 x => U.jE c e  x.1 x.2, fun x => (40 - x.2).toNat, fun p => ∀ x, p x, fun _ h => h⟩
def EP  : Done := ⟨[], .one (.bool true), [], []⟩
def Og : Vc.Sum := .pure [] false fun _ => EP
def Oh  : Nat -> List V -> Nat -> Option Vc.Loop := dw
def ER : List (Nat × Ent) := (5, .sum Og) :: yh
def AL (c : Chain) (e : Event) : Nat -> List V -> Nat -> Option Vc.Loop := fun f v k => cond (Nat.beq f 4 && Nat.beq k 13) (some (GH c e)) <| none
end Go.Proofs.YtkhdeldobekciaaDoor
set_option maxRecDepth 100000
set_option linter.unusedVariables false
namespace Go.Proofs.YtkhdeldobekciaaDoor
open Go.Vc
def BK : Prop := (0 : Nat) <= (1000000000000 : Nat) /\ (0 : Nat) <= (1000000000000 : Nat) /\ (((((((((((((((((((((((((((((((((U.num1 (Int.add (0 : Int) (1 : Int))).append (U.mW ((13 : Int), (7 : Int), [], [], [], [], (0 : Int), (0 : Int), (0 : Int), (3 : Int), []))).length.add (1 : Nat)).add (1 : Nat)).add (1 : Nat)).add (1 : Nat)).add (1 : Nat)).add (1 : Nat)).add (1 : Nat)).add (1 :
 Nat)).add (1 : Nat)).add (1 : Nat)).add (1 : Nat)).add (1 : Nat)).add (1 : Nat)).add (1 : Nat)).add (1 : Nat)).add (1 : Nat)).add (1 : Nat)).add (1 : Nat)).add (1 : Nat)).add (1 : Nat)).add (1 : Nat)).add (1 : Nat)).add (1 : Nat)).add (1 : Nat)).add (1 : Nat)).add (1 : Nat)).add (1 : Nat)).add (1 : Nat)).add (1 : Nat)).add (1 : Nat)).add (1 : Nat)).add (1 : Nat) <= (1000000000 : Nat) /\
 (((((((((((((((((((((((((((((((((U.num1 (Int.add (0 : Int) (1 : Int))).append (U.mW ((13 : Int), (7 : Int), [], [], [], [], (0 : Int), (0 : Int), (0 : Int), (3 : Int), []))).length.add (1 : Nat)).add (1 : Nat)).add (1 : Nat)).add (1 : Nat)).add (1 : Nat)).add (1 : Nat)).add (1 : Nat)).add (1 : Nat)).add (1 : Nat)).add (1 : Nat)).add (1 : Nat)).add (1 : Nat)).add (1 : Nat)).add (1 : Nat)).add (1 :
 Nat)).add (1 : Nat)).add (1 : Nat)).add (1 : Nat)).add (1 : Nat)).add (1 : Nat)).add (1 : Nat)).add (1 : Nat)).add (1 : Nat)).add (1 : Nat)).add (1 : Nat)).add (1 : Nat)).add (1 : Nat)).add (1 : Nat)).add (1 : Nat)).add (1 : Nat)).add (1 : Nat)).add (1 : Nat) <= (1000000000 : Nat) /\ ((bif bif bif decide ((U.aF ([(0 : Int), (0 : Int), (0 : Int), (0 : Int), (0 : Int), (0 : Int), (0 : Int), (0 :
 Int), (0 : Int), (0 : Int), (0 : Int), (0 : Int), (0 : Int), (0 : Int), (0 : Int), (0 : Int), (0 : Int), (0 : Int), (0 : Int), (0 : Int), (0 : Int), (0 : Int), (0 : Int), (0 : Int), (0 : Int), (0 : Int), (0 : Int), (0 : Int), (0 : Int), (0 : Int), (0 : Int), (0 : Int)], (0 : Int)) ((13 : Int), (7 : Int), [], [], [], [], (0 : Int), (0 : Int), (0 : Int), (3 : Int), [])).2.2 = (0 : Int)) then decide
 ((U.aK ([(0 : Int), (0 : Int), (0 : Int), (0 : Int), (0 : Int), (0 : Int), (0 : Int), (0 : Int), (0 : Int), (0 : Int), (0 : Int), (0 : Int), (0 : Int), (0 : Int), (0 : Int), (0 : Int), (0 : Int), (0 : Int), (0 : Int), (0 : Int), (0 : Int), (0 : Int), (0 : Int), (0 : Int), (0 : Int), (0 : Int), (0 : Int), (0 : Int), (0 : Int), (0 : Int), (0 : Int), (0 : Int)], (0 : Int)) (U.aF ([(0 : Int),
 (0 : Int), (0 : Int), (0 : Int), (0 : Int), (0 : Int), (0 : Int), (0 : Int), (0 : Int), (0 : Int), (0 : Int), (0 : Int), (0 : Int), (0 : Int), (0 : Int), (0 : Int), (0 : Int), (0 : Int), (0 : Int), (0 : Int), (0 : Int), (0 : Int), (0 : Int), (0 : Int), (0 : Int), (0 : Int), (0 : Int), (0 : Int), (0 : Int), (0 : Int), (0 : Int), (0 : Int)], (0 : Int)) ((13 : Int), (7 : Int), [], [], [], [], (0 :
 Int), (0 : Int), (0 : Int), (3 : Int), [])).1).2.2 = (0 : Int)) else false then decide ((U.aK (U.aF ([(0 : Int), (0 : Int), (0 : Int), (0 : Int), (0 : Int), (0 : Int), (0 : Int), (0 : Int), (0 : Int), (0 : Int), (0 : Int), (0 : Int), (0 : Int), (0 : Int), (0 : Int), (0 : Int), (0 : Int), (0 : Int), (0 : Int), (0 : Int), (0 : Int), (0 : Int), (0 : Int), (0 : Int), (0 : Int), (0 : Int), (0
 : Int), (0 : Int), (0 : Int), (0 : Int), (0 : Int), (0 : Int)], (0 : Int)) ((13 : Int), (7 : Int), [], [], [], [], (0 : Int), (0 : Int), (0 : Int), (3 : Int), [])).2.1 (U.aF ([(0 : Int), (0 : Int), (0 : Int), (0 : Int), (0 : Int), (0 : Int), (0 : Int), (0 : Int), (0 : Int), (0 : Int), (0 : Int), (0 : Int), (0 : Int), (0 : Int), (0 : Int), (0 : Int), (0 : Int), (0 : Int), (0 : Int), (0 : Int),
 (0 : Int), (0 : Int), (0 : Int), (0 : Int), (0 : Int), (0 : Int), (0 : Int), (0 : Int), (0 : Int), (0 : Int), (0 : Int), (0 : Int)], (0 : Int)) ((13 : Int), (7 : Int), [], [], [], [], (0 : Int), (0 : Int), (0 : Int), (3 : Int), [])).1).2.2 = (11 : Int)) else false then decide ((↑((((((((((((((((((((((((((((((((((U.num1 (Int.add (0 : Int) (1 : Int))).append (U.mW ((13 : Int), (7 : Int), [], [],
 [], [], (0 : Int), (0 : Int), (0 : Int), (3 : Int), []))).length.add (1 : Nat)).add (1 : Nat)).add (1 : Nat)).add (1 : Nat)).add (1 : Nat)).add (1 : Nat)).add (1 : Nat)).add (1 : Nat)).add (1 : Nat)).add (1 : Nat)).add (1 : Nat)).add (1 : Nat)).add (1 : Nat)).add (1 : Nat)).add (1 : Nat)).add (1 : Nat)).add (1 : Nat)).add (1 : Nat)).add (1 : Nat)).add (1 : Nat)).add (1 : Nat)).add (1 : Nat)).add (1
 : Nat)).add (1 : Nat)).add (1 : Nat)).add (1 : Nat)).add (1 : Nat)).add (1 : Nat)).add (1 : Nat)).add (1 : Nat)).add (1 : Nat)).add (1 : Nat)) : Int) = (64 : Int)) else false) = true -> (0 : Int) <= (39 : Int)) /\ ((bif bif bif decide ((U.aF ([(0 : Int), (0 : Int), (0 : Int), (0 : Int), (0 : Int), (0 : Int), (0 : Int), (0 : Int), (0 : Int), (0 : Int), (0 : Int), (0 : Int), (0 : Int), (0 : Int),
 (0 : Int), (0 : Int), (0 : Int), (0 : Int), (0 : Int), (0 : Int), (0 : Int), (0 : Int), (0 : Int), (0 : Int), (0 : Int), (0 : Int), (0 : Int), (0 : Int), (0 : Int), (0 : Int), (0 : Int), (0 : Int)], (0 : Int)) ((13 : Int), (7 : Int), [], [], [], [], (0 : Int), (0 : Int), (0 : Int), (3 : Int), [])).2.2 = (0 : Int)) then decide ((U.aK ([(0 : Int), (0 : Int), (0 : Int), (0 : Int), (0 : Int), (0 :
 Int), (0 : Int), (0 : Int), (0 : Int), (0 : Int), (0 : Int), (0 : Int), (0 : Int), (0 : Int), (0 : Int), (0 : Int), (0 : Int), (0 : Int), (0 : Int), (0 : Int), (0 : Int), (0 : Int), (0 : Int), (0 : Int), (0 : Int), (0 : Int), (0 : Int), (0 : Int), (0 : Int), (0 : Int), (0 : Int), (0 : Int)], (0 : Int)) (U.aF ([(0 : Int), (0 : Int), (0 : Int), (0 : Int), (0 : Int), (0 : Int), (0 : Int), (0 :
 Int), (0 : Int), (0 : Int), (0 : Int), (0 : Int), (0 : Int), (0 : Int), (0 : Int), (0 : Int), (0 : Int), (0 : Int), (0 : Int), (0 : Int), (0 : Int), (0 : Int), (0 : Int), (0 : Int), (0 : Int), (0 : Int), (0 : Int), (0 : Int), (0 : Int), (0 : Int), (0 : Int), (0 : Int)], (0 : Int)) ((13 : Int), (7 : Int), [], [], [], [], (0 : Int), (0 : Int), (0 : Int), (3 : Int), [])).1).2.2 = (0 : Int)) else false
 then decide ((U.aK (U.aF ([(0 : Int), (0 : Int), (0 : Int), (0 : Int), (0 : Int), (0 : Int), (0 : Int), (0 : Int), (0 : Int), (0 : Int), (0 : Int), (0 : Int), (0 : Int), (0 : Int), (0 : Int), (0 : Int), (0 : Int), (0 : Int), (0 : Int), (0 : Int), (0 : Int), (0 : Int), (0 : Int), (0 : Int), (0 : Int), (0 : Int), (0 : Int), (0 : Int), (0 : Int), (0 : Int), (0 : Int), (0 : Int)], (0 : Int))
 ((13 : Int), (7 : Int), [], [], [], [], (0 : Int), (0 : Int), (0 : Int), (3 : Int), [])).2.1 (U.aF ([(0 : Int), (0 : Int), (0 : Int), (0 : Int), (0 : Int), (0 : Int), (0 : Int), (0 : Int), (0 : Int), (0 : Int), (0 : Int), (0 : Int), (0 : Int), (0 : Int), (0 : Int), (0 : Int), (0 : Int), (0 : Int), (0 : Int), (0 : Int), (0 : Int), (0 : Int), (0 : Int), (0 : Int), (0 : Int), (0 : Int), (0 :
 Int), (0 : Int), (0 : Int), (0 : Int), (0 : Int), (0 : Int)], (0 : Int)) ((13 : Int), (7 : Int), [], [], [], [], (0 : Int), (0 : Int), (0 : Int), (3 : Int), [])).1).2.2 = (11 : Int)) else false then decide ((↑((((((((((((((((((((((((((((((((((U.num1 (Int.add (0 : Int) (1 : Int))).append (U.mW ((13 : Int), (7 : Int), [], [], [], [], (0 : Int), (0 : Int), (0 : Int), (3 : Int), []))).length.add (1 :
 Nat)).add (1 : Nat)).add (1 : Nat)).add (1 : Nat)).add (1 : Nat)).add (1 : Nat)).add (1 : Nat)).add (1 : Nat)).add (1 : Nat)).add (1 : Nat)).add (1 : Nat)).add (1 : Nat)).add (1 : Nat)).add (1 : Nat)).add (1 : Nat)).add (1 : Nat)).add (1 : Nat)).add (1 : Nat)).add (1 : Nat)).add (1 : Nat)).add (1 : Nat)).add (1 : Nat)).add (1 : Nat)).add (1 : Nat)).add (1 : Nat)).add (1 : Nat)).add (1 : Nat)).add
 (1 : Nat)).add (1 : Nat)).add (1 : Nat)).add (1 : Nat)).add (1 : Nat)) : Int) = (64 : Int)) else false) = true -> (39 : Int) < (↑((((((((((((((((((((((((((((((((((U.num1 (Int.add (0 : Int) (1 : Int))).append (U.mW ((13 : Int), (7 : Int), [], [], [], [], (0 : Int), (0 : Int), (0 : Int), (3 : Int), []))).length.add (1 : Nat)).add (1 : Nat)).add (1 : Nat)).add (1 : Nat)).add (1 : Nat)).add (1 :
 Nat)).add (1 : Nat)).add (1 : Nat)).add (1 : Nat)).add (1 : Nat)).add (1 : Nat)).add (1 : Nat)).add (1 : Nat)).add (1 : Nat)).add (1 : Nat)).add (1 : Nat)).add (1 : Nat)).add (1 : Nat)).add (1 : Nat)).add (1 : Nat)).add (1 : Nat)).add (1 : Nat)).add (1 : Nat)).add (1 : Nat)).add (1 : Nat)).add (1 : Nat)).add (1 : Nat)).add (1 : Nat)).add (1 : Nat)).add (1 : Nat)).add (1 : Nat)).add (1 : Nat)) :
 Int)) /\ (bif bif bif bif bif bif bif decide ((U.aF ([(0 : Int), (0 : Int), (0 : Int), (0 : Int), (0 : Int), (0 : Int), (0 : Int), (0 : Int), (0 : Int), (0 : Int), (0 : Int), (0 : Int), (0 : Int), (0 : Int), (0 : Int), (0 : Int), (0 : Int), (0 : Int), (0 : Int), (0 : Int), (0 : Int), (0 : Int), (0 : Int), (0 : Int), (0 : Int), (0 : Int), (0 : Int), (0 : Int), (0 : Int), (0 : Int), (0 : Int), (0
 : Int)], (0 : Int)) ((13 : Int), (7 : Int), [], [], [], [], (0 : Int), (0 : Int), (0 : Int), (3 : Int), [])).2.2 = (0 : Int)) then decide ((U.aK ([(0 : Int), (0 : Int), (0 : Int), (0 : Int), (0 : Int), (0 : Int), (0 : Int), (0 : Int), (0 : Int), (0 : Int), (0 : Int), (0 : Int), (0 : Int), (0 : Int), (0 : Int), (0 : Int), (0 : Int), (0 : Int), (0 : Int), (0 : Int), (0 : Int), (0 : Int), (0 :
 Int), (0 : Int), (0 : Int), (0 : Int), (0 : Int), (0 : Int), (0 : Int), (0 : Int), (0 : Int), (0 : Int)], (0 : Int)) (U.aF ([(0 : Int), (0 : Int), (0 : Int), (0 : Int), (0 : Int), (0 : Int), (0 : Int), (0 : Int), (0 : Int), (0 : Int), (0 : Int), (0 : Int), (0 : Int), (0 : Int), (0 : Int), (0 : Int), (0 : Int), (0 : Int), (0 : Int), (0 : Int), (0 : Int), (0 : Int), (0 : Int), (0 : Int), (0 :
 Int), (0 : Int), (0 : Int), (0 : Int), (0 : Int), (0 : Int), (0 : Int), (0 : Int)], (0 : Int)) ((13 : Int), (7 : Int), [], [], [], [], (0 : Int), (0 : Int), (0 : Int), (3 : Int), [])).1).2.2 = (0 : Int)) else false then decide ((U.aK (U.aF ([(0 : Int), (0 : Int), (0 : Int), (0 : Int), (0 : Int), (0 : Int), (0 : Int), (0 : Int), (0 : Int), (0 : Int), (0 : Int), (0 : Int), (0 : Int), (0 :
 Int), (0 : Int), (0 : Int), (0 : Int), (0 : Int), (0 : Int), (0 : Int), (0 : Int), (0 : Int), (0 : Int), (0 : Int), (0 : Int), (0 : Int), (0 : Int), (0 : Int), (0 : Int), (0 : Int), (0 : Int), (0 : Int)], (0 : Int)) ((13 : Int), (7 : Int), [], [], [], [], (0 : Int), (0 : Int), (0 : Int), (3 : Int), [])).2.1 (U.aF ([(0 : Int), (0 : Int), (0 : Int), (0 : Int), (0 : Int), (0 : Int), (0 : Int), (0
 : Int), (0 : Int), (0 : Int), (0 : Int), (0 : Int), (0 : Int), (0 : Int), (0 : Int), (0 : Int), (0 : Int), (0 : Int), (0 : Int), (0 : Int), (0 : Int), (0 : Int), (0 : Int), (0 : Int), (0 : Int), (0 : Int), (0 : Int), (0 : Int), (0 : Int), (0 : Int), (0 : Int), (0 : Int)], (0 : Int)) ((13 : Int), (7 : Int), [], [], [], [], (0 : Int), (0 : Int), (0 : Int), (3 : Int), [])).1).2.2 = (11 : Int)) else
 false then decide ((↑((((((((((((((((((((((((((((((((((U.num1 (Int.add (0 : Int) (1 : Int))).append (U.mW ((13 : Int), (7 : Int), [], [], [], [], (0 : Int), (0 : Int), (0 : Int), (3 : Int), []))).length.add (1 : Nat)).add (1 : Nat)).add (1 : Nat)).add (1 : Nat)).add (1 : Nat)).add (1 : Nat)).add (1 : Nat)).add (1 : Nat)).add (1 : Nat)).add (1 : Nat)).add (1 : Nat)).add (1 : Nat)).add (1 :
 Nat)).add (1 : Nat)).add (1 : Nat)).add (1 : Nat)).add (1 : Nat)).add (1 : Nat)).add (1 : Nat)).add (1 : Nat)).add (1 : Nat)).add (1 : Nat)).add (1 : Nat)).add (1 : Nat)).add (1 : Nat)).add (1 : Nat)).add (1 : Nat)).add (1 : Nat)).add (1 : Nat)).add (1 : Nat)).add (1 : Nat)).add (1 : Nat)) : Int) = (64 : Int)) else false then decide ((U.aF ([(0 : Int), (0 : Int), (0 : Int), (0 : Int), (0 :
 Int), (0 : Int), (0 : Int), (0 : Int), (0 : Int), (0 : Int), (0 : Int), (0 : Int), (0 : Int), (0 : Int), (0 : Int), (0 : Int), (0 : Int), (0 : Int), (0 : Int), (0 : Int), (0 : Int), (0 : Int), (0 : Int), (0 : Int), (0 : Int), (0 : Int), (0 : Int), (0 : Int), (0 : Int), (0 : Int), (0 : Int), (0 : Int)], (0 : Int)) ((13 : Int), (7 : Int), [], [], [], [], (0 : Int), (0 : Int), (0 : Int), (3 : Int),
 [])).1.getD (39 : Nat) (0 : Int) = (1 : Int)) else false then decide ((U.aF ([(0 : Int), (0 : Int), (0 : Int), (0 : Int), (0 : Int), (0 : Int), (0 : Int), (0 : Int), (0 : Int), (0 : Int), (0 : Int), (0 : Int), (0 : Int), (0 : Int), (0 : Int), (0 : Int), (0 : Int), (0 : Int), (0 : Int), (0 : Int), (0 : Int), (0 : Int), (0 : Int), (0 : Int), (0 : Int), (0 : Int), (0 : Int), (0 : Int), (0 : Int),
 (0 : Int), (0 : Int), (0 : Int)], (0 : Int)) ((13 : Int), (7 : Int), [], [], [], [], (0 : Int), (0 : Int), (0 : Int), (3 : Int), [])).2.1.2 = (1 : Int)) else false then (U.aK ([(0 : Int), (0 : Int), (0 : Int), (0 : Int), (0 : Int), (0 : Int), (0 : Int), (0 : Int), (0 : Int), (0 : Int), (0 : Int), (0 : Int), (0 : Int), (0 : Int), (0 : Int), (0 : Int), (0 : Int), (0 : Int), (0 : Int), (0 : Int),
 (0 : Int), (0 : Int), (0 : Int), (0 : Int), (0 : Int), (0 : Int), (0 : Int), (0 : Int), (0 : Int), (0 : Int), (0 : Int), (0 : Int)], (0 : Int)) (U.aF ([(0 : Int), (0 : Int), (0 : Int), (0 : Int), (0 : Int), (0 : Int), (0 : Int), (0 : Int), (0 : Int), (0 : Int), (0 : Int), (0 : Int), (0 : Int), (0 : Int), (0 : Int), (0 : Int), (0 : Int), (0 : Int), (0 : Int), (0 : Int), (0 : Int), (0 : Int), (0
 : Int), (0 : Int), (0 : Int), (0 : Int), (0 : Int), (0 : Int), (0 : Int), (0 : Int), (0 : Int), (0 : Int)], (0 : Int)) ((13 : Int), (7 : Int), [], [], [], [], (0 : Int), (0 : Int), (0 : Int), (3 : Int), [])).1).1.1.beq (U.aF ([(0 : Int), (0 : Int), (0 : Int), (0 : Int), (0 : Int), (0 : Int), (0 : Int), (0 : Int), (0 : Int), (0 : Int), (0 : Int), (0 : Int), (0 : Int), (0 : Int), (0 : Int), (0 :
 Int), (0 : Int), (0 : Int), (0 : Int), (0 : Int), (0 : Int), (0 : Int), (0 : Int), (0 : Int), (0 : Int), (0 : Int), (0 : Int), (0 : Int), (0 : Int), (0 : Int), (0 : Int), (0 : Int)], (0 : Int)) ((13 : Int), (7 : Int), [], [], [], [], (0 : Int), (0 : Int), (0 : Int), (3 : Int), [])).2.1.1 && (decide ((U.aK ([(0 : Int), (0 : Int), (0 : Int), (0 : Int), (0 : Int), (0 : Int), (0 : Int), (0 : Int),
 (0 : Int), (0 : Int), (0 : Int), (0 : Int), (0 : Int), (0 : Int), (0 : Int), (0 : Int), (0 : Int), (0 : Int), (0 : Int), (0 : Int), (0 : Int), (0 : Int), (0 : Int), (0 : Int), (0 : Int), (0 : Int), (0 : Int), (0 : Int), (0 : Int), (0 : Int), (0 : Int), (0 : Int)], (0 : Int)) (U.aF ([(0 : Int), (0 : Int), (0 : Int), (0 : Int), (0 : Int), (0 : Int), (0 : Int), (0 : Int), (0 : Int), (0 : Int), (0
 : Int), (0 : Int), (0 : Int), (0 : Int), (0 : Int), (0 : Int), (0 : Int), (0 : Int), (0 : Int), (0 : Int), (0 : Int), (0 : Int), (0 : Int), (0 : Int), (0 : Int), (0 : Int), (0 : Int), (0 : Int), (0 : Int), (0 : Int), (0 : Int), (0 : Int)], (0 : Int)) ((13 : Int), (7 : Int), [], [], [], [], (0 : Int), (0 : Int), (0 : Int), (3 : Int), [])).1).1.2 = (U.aF ([(0 : Int), (0 : Int), (0 : Int), (0 :
 Int), (0 : Int), (0 : Int), (0 : Int), (0 : Int), (0 : Int), (0 : Int), (0 : Int), (0 : Int), (0 : Int), (0 : Int), (0 : Int), (0 : Int), (0 : Int), (0 : Int), (0 : Int), (0 : Int), (0 : Int), (0 : Int), (0 : Int), (0 : Int), (0 : Int), (0 : Int), (0 : Int), (0 : Int), (0 : Int), (0 : Int), (0 : Int), (0 : Int)], (0 : Int)) ((13 : Int), (7 : Int), [], [], [], [], (0 : Int), (0 : Int), (0 : Int), (3
 : Int), [])).2.1.2) && true) else false then decide ((U.aK ([(0 : Int), (0 : Int), (0 : Int), (0 : Int), (0 : Int), (0 : Int), (0 : Int), (0 : Int), (0 : Int), (0 : Int), (0 : Int), (0 : Int), (0 : Int), (0 : Int), (0 : Int), (0 : Int), (0 : Int), (0 : Int), (0 : Int), (0 : Int), (0 : Int), (0 : Int), (0 : Int), (0 : Int), (0 : Int), (0 : Int), (0 : Int), (0 : Int), (0 : Int), (0 : Int), (0 :
 Int), (0 : Int)], (0 : Int)) (U.aF ([(0 : Int), (0 : Int), (0 : Int), (0 : Int), (0 : Int), (0 : Int), (0 : Int), (0 : Int), (0 : Int), (0 : Int), (0 : Int), (0 : Int), (0 : Int), (0 : Int), (0 : Int), (0 : Int), (0 : Int), (0 : Int), (0 : Int), (0 : Int), (0 : Int), (0 : Int), (0 : Int), (0 : Int), (0 : Int), (0 : Int), (0 : Int), (0 : Int), (0 : Int), (0 : Int), (0 : Int), (0 : Int)], (0 :
 Int)) ((13 : Int), (7 : Int), [], [], [], [], (0 : Int), (0 : Int), (0 : Int), (3 : Int), [])).1).2.1.2.2.2.2.2.2.2.2.2.1 = (3 : Int)) else false) = true /\ True
def pX (c : Chain) (e : Event) : Prop := bif U.great e then true = true /\ True else (U.cO e).length <= (1000000000000 : Nat) /\ (U.eTo e).length <= (1000000000000 : Nat) /\ bif (U.aF c e).2.2 != (0 : Int) then (bif decide ((↑(U.aF c e).1.length : Int) = (0 : Int)) then (U.aF c e).2.1.1.beq [(0 : Int), (0 : Int), (0 : Int), (0 : Int), (0 : Int), (0 : Int), (0 : Int), (0
 : Int), (0 : Int), (0 : Int), (0 : Int), (0 : Int), (0 : Int), (0 : Int), (0 : Int), (0 : Int), (0 : Int), (0 : Int), (0 : Int), (0 : Int), (0 : Int), (0 : Int), (0 : Int), (0 : Int), (0 : Int), (0 : Int), (0 : Int), (0 : Int), (0 : Int), (0 : Int), (0 : Int), (0 : Int)] && (decide ((U.aF c e).2.1.2 = (0 : Int)) && true) else false) = true /\ True else (U.cO e).length <= (1000000000000 : Nat)
 /\ (U.eTo e).length <= (1000000000000 : Nat) /\ bif (↑(U.aF c e).1.length : Int) != IntKind.i64.wrap (Int.add (40 : Int) (↑(U.dP e).1.length : Int)) then false = true /\ True else ∃ (x0 : Int × Int), (U.gU c e (0 : Int) (32 : Int) = U.gU c e x0.1 x0.2 /\ U.jE c e x0.1 x0.2) /\ ∀ (x : Int × Int), U.jE c e x.1 x.2 -> bif
 decide (x.2 < (40 : Int)) then (0 : Int) <= x.2 /\ x.2 < (↑(U.aF c e).1.length : Int) /\ ∃ (y : Int × Int), U.gU c e (IntKind.i64.wrap ((IntKind.i64.wrap (x.1.mul (256 : Int))).add (IntKind.i64.wrap ((U.aF c e).1.getD x.2.toNat (0 : Int))))) (IntKind.i64.wrap (x.2.add (1 : Int))) = U.gU c e y.1 y.2 /\ U.jE c e y.1 y.2 /\ (Int.sub (40 :
 Int) y.2).toNat < (Int.sub (40 : Int) x.2).toNat else ((bif decide ((U.dP e).2 = (0 : Int)) then decide ((↑(U.aF c e).1.length : Int) = IntKind.i64.wrap (Int.add (40 : Int) (↑(U.dP e).1.length : Int))) else false) = true -> (0 : Int) <= (0 : Int)) /\ ((bif decide ((U.dP e).2 = (0 : Int)) then decide ((↑(U.aF c e).1.length : Int) = IntKind.i64.wrap (Int.add (40 : Int) (↑(U.dP
 e).1.length : Int))) else false) = true -> (0 : Int) <= (32 : Int)) /\ ((bif decide ((U.dP e).2 = (0 : Int)) then decide ((↑(U.aF c e).1.length : Int) = IntKind.i64.wrap (Int.add (40 : Int) (↑(U.dP e).1.length : Int))) else false) = true -> (32 : Int) <= (↑(U.aF c e).1.length : Int)) /\ ((bif decide ((U.dP e).2 = (0 : Int)) then decide ((↑(U.aF c e).1.length : Int) = IntKind.i64.wrap
 (Int.add (40 : Int) (↑(U.dP e).1.length : Int))) else false) = true -> (0 : Int) <= (0 : Int)) /\ ((bif decide ((U.dP e).2 = (0 : Int)) then decide ((↑(U.aF c e).1.length : Int) = IntKind.i64.wrap (Int.add (40 : Int) (↑(U.dP e).1.length : Int))) else false) = true -> (0 : Int) <= (↑(32 : Nat) : Int)) /\ ((bif decide ((U.dP e).2 = (0 : Int)) then decide ((↑(U.aF c e).1.length : Int) =
 IntKind.i64.wrap (Int.add (40 : Int) (↑(U.dP e).1.length : Int))) else false) = true -> (↑(32 : Nat) : Int) <= (↑(32 : Nat) : Int)) /\ ((bif bif bif decide ((U.dP e).2 = (0 : Int)) then decide ((↑(U.aF c e).1.length : Int) = IntKind.i64.wrap (Int.add (40 : Int) (↑(U.dP e).1.length : Int))) else false then (List.take ((32 : Nat).sub (0 : Nat)) (List.drop (0 : Nat) (U.aF c e).1)).beq
 (List.take ((↑(32 : Nat) : Int).toNat.sub (0 : Nat)) (List.drop (0 : Nat) c.1)) else false then decide (x.1 = IntKind.i64.wrap (c.2.add (1 : Int))) else false) = true -> (0 : Int) <= (40 : Int)) /\ ((bif bif bif decide ((U.dP e).2 = (0 : Int)) then decide ((↑(U.aF c e).1.length : Int) = IntKind.i64.wrap (Int.add (40 : Int) (↑(U.dP e).1.length : Int))) else false then (List.take ((32 :
 Nat).sub (0 : Nat)) (List.drop (0 : Nat) (U.aF c e).1)).beq (List.take ((↑(32 : Nat) : Int).toNat.sub (0 : Nat)) (List.drop (0 : Nat) c.1)) else false then decide (x.1 = IntKind.i64.wrap (c.2.add (1 : Int))) else false) = true -> (40 : Int) <= (↑(U.aF c e).1.length : Int)) /\ ((bif bif bif decide ((U.dP e).2 = (0 : Int)) then decide ((↑(U.aF c e).1.length : Int) = IntKind.i64.wrap
 (Int.add (40 : Int) (↑(U.dP e).1.length : Int))) else false then (List.take ((32 : Nat).sub (0 : Nat)) (List.drop (0 : Nat) (U.aF c e).1)).beq (List.take ((↑(32 : Nat) : Int).toNat.sub (0 : Nat)) (List.drop (0 : Nat) c.1)) else false then decide (x.1 = IntKind.i64.wrap (c.2.add (1 : Int))) else false) = true -> (↑(U.aF c e).1.length : Int) <= (↑(U.aF c e).1.length : Int)) /\ (bif bif
 bif bif bif decide ((U.dP e).2 = (0 : Int)) then decide ((↑(U.aF c e).1.length : Int) = IntKind.i64.wrap (Int.add (40 : Int) (↑(U.dP e).1.length : Int))) else false then (List.take ((32 : Nat).sub (0 : Nat)) (List.drop (0 : Nat) (U.aF c e).1)).beq (List.take ((↑(32 : Nat) : Int).toNat.sub (0 : Nat)) (List.drop (0 : Nat) c.1)) else false then decide (x.1 = IntKind.i64.wrap (c.2.add (1
 : Int))) else false then decide (List.take ((↑(U.aF c e).1.length : Int).toNat.sub (40 : Nat)) (List.drop (40 : Nat) (U.aF c e).1) = (U.dP e).1) else false then decide ((U.aF c e).2.1.2 = x.1) else false) = true /\ True
end Go.Proofs.YtkhdeldobekciaaDoor
set_option linter.unusedSimpArgs false
set_option linter.unusedVariables false
set_option maxRecDepth 100000
namespace Go.Proofs.YtkhdeldobekciaaDoor
open Go.Vc
open Go.Vc.T
theorem Xv : BK := by unfold BK; decide +kernel
theorem aez (l : List Int) : l.beq l = true := beq_self_eq_true l
theorem ae9 {e : Event} (h : U.great e = false) : (U.cO e).length <= 500 /\ (U.eTo e).length <= 500 := by
 unfold U.great at h
 simp only [Bool.or_eq_false_iff, decide_eq_false_iff_not] at h
 omega
theorem aaz {c : Chain} {e : Event} (h : (U.aF c e).2.2 = 0) : U.aX e = true /\ U.jD c = true /\ ¬ c.2 = 1099511627776 := by
 by_cases h1 : (!(U.aX e) || !(U.jD c)) = true
 ·rw [zH h1] at h; cases h
 ·simp only [Bool.or_eq_true, Bool.not_eq_true', not_or, Bool.not_eq_false] at h1
  refine ⟨h1.1, h1.2, fun h3 => ?_⟩
  rw [EO h1.1 h1.2 h3] at h; cases h
theorem abC {c : Chain} {e : Event} (h : ¬ (U.aF c e).2.2 = 0) : (U.aF c e).1 = [] /\ (U.aF c e).2.1 = U.kV := by
 by_cases h1 : (!(U.aX e) || !(U.jD c)) = true
 ·rw [zH h1]; exact ⟨rfl, rfl⟩
 ·simp only [Bool.or_eq_true, Bool.not_eq_true', not_or, Bool.not_eq_false] at h1
  by_cases h3 : c.2 = 1099511627776
  ·rw [EO h1.1 h1.2 h3]; exact ⟨rfl, rfl⟩
  ·rw [Jz h1.1 h1.2 h3] at h; exact absurd rfl h
theorem VW : ∀ (b a : List Int), (∀ x ∈ a, Byte x) -> (∀ x ∈ b, Byte x) -> U.aN a <= U.aN (a ++ b)
 | [], a, _, _ => by rw [List.append_nil]; exact Int.le_refl _
 | x :: b, a, ha, hb => by
   have hx := hb x (by simp)
   have hx0 : 0 <= x := hx.1
   have h := VW b (a ++ [x]) (fun y hy => by rcases List.mem_append.1 hy with hy | hy; exact ha y hy; rw [List.mem_singleton.1 hy]; exact hx) (fun y hy => hb y (List.mem_cons_of_mem _ hy))
   rw [Ew, List.append_assoc] at h
   have h0 := (vC a.length a rfl ha).1
   have h : U.aN a * 256 + x <= U.aN (a ++ x :: b) := h
   omega
theorem KL (c : Chain) (e : Event) (hv : oP [dJ, bI] (c, e)) : pX c e := by
 unfold pX
 rw [cond_prop]
 refine ⟨fun _ => ⟨rfl, trivial⟩, fun hg => ?_⟩
 have hgn := ae9 hg
 refine ⟨by omega, by omega, ?_⟩
 rw [cond_prop]
 refine ⟨fun hz => ?_, fun hz => ?_⟩
 ·have hz : ¬ (U.aF c e).2.2 = 0 := by simpa using hz
  obtain ⟨h1, h2⟩ := abC hz
  rw [h1, h2]; exact ⟨by decide +kernel, trivial⟩
 ·have hz : (U.aF c e).2.2 = 0 := by simpa using hz
  obtain ⟨r1, r2, r3⟩ := aaz hz
  obtain ⟨c0, c1⟩ := chR r2
  have hl : c.1.length = 32 := hv.1.1.2
  have hle := aan r1
  have hlen := aao (c := c) (e := e) hl
  have hN := Jz r1 r2 r3
  refine ⟨by omega, by omega, ?_⟩
  have hw : IntKind.i64.wrap (Int.add 40 ((U.mW e).length : Int)) = 40 + ((U.mW e).length : Int) := by rw [bG, bQ (by omega) (by omega)]
  rw [hN, TQ r1]
  dsimp only
  rw [hw, show (((U.fJ c e).length : Int) != 40 + ((U.mW e).length : Int)) = false by rw [bne_eq_false_iff_eq]; omega]
  refine ⟨(0, 32), ⟨rfl, by omega, by omega, hz, rfl⟩, ?_⟩
  rintro ⟨n, i⟩ ⟨i0, i1, _, hn⟩
  dsimp only at i0 i1 hn ⊢
  rw [hN] at hn; dsimp only at hn
  have h8 : ((U.fJ c e).drop 32).take 8 = U.num1 (c.2 + 1) := by
   unfold U.fJ; rw [List.drop_left' hl]; exact List.take_left' (dM _)
  have hby := aex (lI hv.1.1.1) hv.2
  have hlow := vC (i - 32).toNat (((U.fJ c e).drop 32).take (i - 32).toNat) (by rw [List.length_take, List.length_drop]; omega) (fun x hx => hby x (List.mem_of_mem_drop (List.mem_of_mem_take hx)))
  rw [cond_prop]
  refine ⟨fun hi => ?_, fun hi => ?_⟩
  ·have hi : i < 40 := of_decide_eq_true hi
   have hx := hby ((U.fJ c e)[i.toNat]'(by omega)) (List.getElem_mem _)
   have hx0 : 0 <= (U.fJ c e)[i.toNat]'(by omega) := hx.1
   have hx1 : (U.fJ c e)[i.toNat]'(by omega) <= 255 := hx.2
   have hn1 : n <= c.2 + 1 := by
    have hv8 : U.aN (((U.fJ c e).drop 32).take 8) = c.2 + 1 := by
     rw [h8]; unfold U.num1; rw [Zx (by omega) (by omega)]; exact QM 8 _ (by omega) (by omega)
    rw [<- hv8, hn]
    have hsp : ((U.fJ c e).drop 32).take 8 = ((U.fJ c e).drop 32).take (i - 32).toNat ++ (((U.fJ c e).drop 32).take 8).drop (i - 32).toNat := by
     conv => lhs; rw [<- List.take_append_drop (i - 32).toNat (((U.fJ c e).drop 32).take 8), List.take_take, Nat.min_eq_left (by omega)]
    rw [hsp]
    exact VW _ _ (fun x hx => hby x (List.mem_of_mem_drop (List.mem_of_mem_take hx))) (fun x hx => hby x (List.mem_of_mem_drop (List.mem_of_mem_take (List.mem_of_mem_drop hx))))
   rw [<- hn] at hlow
   have hn0 : 0 <= n := hlow.1
   have hstep : U.aN (((U.fJ c e).drop 32).take (i + 1 - 32).toNat) = n * 256 + (U.fJ c e)[i.toNat]'(by omega) := by
    rw [show (i + 1 - 32).toNat = (i - 32).toNat + 1 by omega, List.take_succ_eq_append_getElem (by rw [List.length_drop]; omega), Ew, <- hn, List.getElem_drop]
    congr 2; omega
   refine ⟨by omega, by omega, (n * 256 + (U.fJ c e)[i.toNat]'(by omega), i + 1), ?_, ⟨by show 32 <= i + 1; omega, by show i + 1 <= 40; omega, hz, ?_⟩, by simp only [eF]; omega⟩
   ·rw [getD_at (by omega), gB, bQ (x := n * 256) (by omega) (by omega), bQ (x := (U.fJ c e)[i.toNat]'(by omega)) (by omega) (by omega), bG, bG, bQ (x := n * 256 + (U.fJ c e)[i.toNat]'(by omega)) (by omega) (by omega), bQ (x := i + 1) (by omega) (by omega)]
   ·show _ = U.aN (((U.aF c e).1.drop 32).take (i + 1 - 32).toNat)
    rw [hN]; exact hstep.symm
  ·have hi : i = 40 := by have := of_decide_eq_false hi; omega
   subst hi
   have hnv : n = c.2 + 1 := by
    rw [hn, show ((40 : Int) - 32).toNat = 8 from rfl, h8]
    unfold U.num1; rw [Zx (by omega) (by omega)]; exact QM 8 _ (by omega) (by omega)
   have ht : List.take (Nat.sub 32 0) (List.drop 0 (U.fJ c e)) = c.1 := by unfold U.fJ; exact List.take_left' hl
   have htc : List.take ((↑(32 : Nat) : Int).toNat.sub 0) (List.drop 0 c.1) = c.1 := QT c.1 (Nat.le_of_eq hl)
   have hd : List.take (((U.fJ c e).length : Int).toNat.sub 40) (List.drop 40 (U.fJ c e)) = U.mW e := by
    rw [abU]; unfold U.fJ; rw [<- List.append_assoc]
    exact List.drop_left' (by rw [List.length_append, hl, dM])
   have hcw : IntKind.i64.wrap (c.2.add 1) = c.2 + 1 := by rw [bG, bQ (by omega) (by omega)]
   refine ⟨fun _ => by omega, fun _ => by omega, fun _ => by omega, fun _ => by omega, fun _ => by omega, fun _ => by omega, fun _ => by omega, fun _ => by omega, fun _ => by omega, ?_, trivial⟩
   rw [ht, htc, hd, hcw, hnv, aez]
   rw [show (U.jI c (U.fJ c e)).2 = c.2 + 1 from hcw]
   rw [decide_eq_true (by omega : ((U.fJ c e).length : Int) = 40 + ((U.mW e).length : Int))]
   simp
end Go.Proofs.YtkhdeldobekciaaDoor
set_option linter.unusedSimpArgs false
set_option maxRecDepth 100000
set_option linter.unusedVariables false
namespace Go.Proofs.YtkhdeldobekciaaDoor
open Go.Vc
theorem aaA (x : aI []) : bM Tryd.prog (aU yh) (Oh ) 5 (bK [] x) [] (EP ) = BK  := by kernel_rfl
theorem aaB : Pok 5 [] (fun x => EP ) := by
 refine pk (L := fun x => Oh ) (l := yh) KD (fun _ => rfl) ?_
 intro x hv hp
 rw [aaA]
 exact Xv
theorem aaC : aY Tryd.prog gl 5 Og := aaB
theorem Xw : aS ER := .cons aaC KD
end Go.Proofs.YtkhdeldobekciaaDoor
