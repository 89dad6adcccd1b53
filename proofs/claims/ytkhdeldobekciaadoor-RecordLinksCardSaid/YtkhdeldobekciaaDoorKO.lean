/- What functions of this seat compute, in plain Lean. -/
import Derived.Test.YtkhdeldobekciaaDoorKN
set_option linter.unusedVariables false
set_option linter.unusedSimpArgs false
set_option maxRecDepth 100000
namespace Go.Proofs.YtkhdeldobekciaaDoor
open Go.Vc
abbrev oC : Ty := .slice bQ
namespace U
def aay (c : Chain) : Prop := (∀ x ∈ c.1, Byte x) /\ c.1.length = 32 /\ 0 <= c.2 /\ c.2 <= 1099511627776
def linked (c : Chain) (b : List Int) : Prop := ∃ e : Event, bI e = true /\ Valid bQ e /\ b = kE c e
def L6 (rs : List (List Int)) (cs : List Chain) : Prop := rs.length = cs.length /\ ∀ j : Nat, j < rs.length -> (cs.getD j dA).2 = j /\ aay (cs.getD j dA) /\ linked (cs.getD j dA) (rs.getD j [])
end U
namespace U
def fE (l : List Event) (k8 : Int) (c : Chain) (rs : List (List Int)) (cs : List Chain) (i : Int) : St2 := ⟨⟨[sL false bQ l] ++ [sK .u8 k8] ++ U.n 3 ++ [sP 0 0] ++ [own 1] ++ [own 2] ++ [sI i] ++ U.n 104, [], [(0, .obj [.arr 32 true (.int .u8) c.1, .int .i64 c.2]), (1, .row 32 (.slice (.int .u8)) true true rs), (2, .row 26 fA true true cs)]⟩, 3, []⟩
def iF (l : List Event) (k8 : Int)  (c : Chain) (rs : List (List Int)) (cs : List Chain) (i : Int) : Prop := at_ l i /\ l.length <= 50 /\ aay c /\ c.2 = rs.length /\ (rs.length : Int) <= i /\ L6 rs cs
def gB  (rs : List (List Int)) (cs : List Chain) (k : Int) (i : Int) : St2 := ⟨⟨U.n 6 ++ [own 0] ++ [own 1] ++ U.n 7 ++ [sI k] ++ [sI i] ++ U.n 96, [], [(0, .row 32 (.slice (.int .u8)) true true rs), (1, .row 26 fA true true cs)]⟩, 2, []⟩
def jo   (rs : List (List Int)) (cs : List Chain) (k : Int) (i : Int) : Prop := at_ cs i /\ 0 <= k /\ k < rs.length /\ rs.length <= 50 /\ L6 rs cs
end U
def F5 (l : List Event) (k8 : Int) : Vc.Loop := ⟨{ keep := [0, 1, 5, 6, 7, 8], wake := [(6, 32), (7, 26)] }, Chain × List (List Int) × List Chain × Int, fun x => U.fE l k8 x.1 x.2.1 x.2.2.1 x.2.2.2, fun x0 x => U.iF l k8  x.1 x.2.1 x.2.2.1 x.2.2.2, fun x => l.length - x.2.2.2.toNat⟩
def ES  : Vc.Loop := ⟨{ keep := [6, 7, 15, 16] }, List (List Int) × List Chain × Int × Int, fun x => U.gB  x.1 x.2.1 x.2.2.1 x.2.2.2, fun x0 x => U.jo   x.1 x.2.1 x.2.2.1 x.2.2.2, fun x => x.2.1.length - x.2.2.2.toNat⟩
def Du  : Done := ⟨[], .one (.bool true), [], []⟩
def KZ : Vc.Sum := .pure [] false fun _ => Du
def La  : Nat -> List V -> Nat -> Option Vc.Loop := dO
def Dv : List (Nat × Ent) := (5, .sum KZ) :: wK
def zx (l : List Event) (k8 : Int) : Nat -> List V -> Nat -> Option Vc.Loop := fun f v k => cond (Nat.beq f 3 && Nat.beq k 9) (some (F5 l k8)) <| cond (Nat.beq f 3 && Nat.beq k 23) (some (ES)) <| none
end Go.Proofs.YtkhdeldobekciaaDoor
set_option maxRecDepth 100000
set_option linter.unusedVariables false
namespace Go.Proofs.YtkhdeldobekciaaDoor
open Go.Vc
def zW : Prop := (0 : Nat) <= (1000000000000 : Nat) /\ (0 : Nat) <= (1000000000000 : Nat) /\ (((((((((((((((((((((((((((((((((U.num1 (Int.add (0 : Int) (1 : Int))).append (U.nN ((13 : Int), (7 : Int), [], [], [], [], (0 : Int), (0 : Int), (0 : Int), (3 : Int), []))).length.add (1 : Nat)).add (1 : Nat)).add (1 : Nat)).add (1 : Nat)).add (1 : Nat)).add (1 : Nat)).add (1 : Nat)).add (1 :
 Nat)).add (1 : Nat)).add (1 : Nat)).add (1 : Nat)).add (1 : Nat)).add (1 : Nat)).add (1 : Nat)).add (1 : Nat)).add (1 : Nat)).add (1 : Nat)).add (1 : Nat)).add (1 : Nat)).add (1 : Nat)).add (1 : Nat)).add (1 : Nat)).add (1 : Nat)).add (1 : Nat)).add (1 : Nat)).add (1 : Nat)).add (1 : Nat)).add (1 : Nat)).add (1 : Nat)).add (1 : Nat)).add (1 : Nat)).add (1 : Nat) <= (1000000000 : Nat) /\
 (((((((((((((((((((((((((((((((((U.num1 (Int.add (0 : Int) (1 : Int))).append (U.nN ((13 : Int), (7 : Int), [], [], [], [], (0 : Int), (0 : Int), (0 : Int), (3 : Int), []))).length.add (1 : Nat)).add (1 : Nat)).add (1 : Nat)).add (1 : Nat)).add (1 : Nat)).add (1 : Nat)).add (1 : Nat)).add (1 : Nat)).add (1 : Nat)).add (1 : Nat)).add (1 : Nat)).add (1 : Nat)).add (1 : Nat)).add (1 : Nat)).add (1 :
 Nat)).add (1 : Nat)).add (1 : Nat)).add (1 : Nat)).add (1 : Nat)).add (1 : Nat)).add (1 : Nat)).add (1 : Nat)).add (1 : Nat)).add (1 : Nat)).add (1 : Nat)).add (1 : Nat)).add (1 : Nat)).add (1 : Nat)).add (1 : Nat)).add (1 : Nat)).add (1 : Nat)).add (1 : Nat) <= (1000000000 : Nat) /\ ((bif bif bif decide ((U.aJ ([(0 : Int), (0 : Int), (0 : Int), (0 : Int), (0 : Int), (0 : Int), (0 : Int), (0 :
 Int), (0 : Int), (0 : Int), (0 : Int), (0 : Int), (0 : Int), (0 : Int), (0 : Int), (0 : Int), (0 : Int), (0 : Int), (0 : Int), (0 : Int), (0 : Int), (0 : Int), (0 : Int), (0 : Int), (0 : Int), (0 : Int), (0 : Int), (0 : Int), (0 : Int), (0 : Int), (0 : Int), (0 : Int)], (0 : Int)) ((13 : Int), (7 : Int), [], [], [], [], (0 : Int), (0 : Int), (0 : Int), (3 : Int), [])).2.2 = (0 : Int)) then decide
 ((U.aF ([(0 : Int), (0 : Int), (0 : Int), (0 : Int), (0 : Int), (0 : Int), (0 : Int), (0 : Int), (0 : Int), (0 : Int), (0 : Int), (0 : Int), (0 : Int), (0 : Int), (0 : Int), (0 : Int), (0 : Int), (0 : Int), (0 : Int), (0 : Int), (0 : Int), (0 : Int), (0 : Int), (0 : Int), (0 : Int), (0 : Int), (0 : Int), (0 : Int), (0 : Int), (0 : Int), (0 : Int), (0 : Int)], (0 : Int)) (U.aJ ([(0 : Int),
 (0 : Int), (0 : Int), (0 : Int), (0 : Int), (0 : Int), (0 : Int), (0 : Int), (0 : Int), (0 : Int), (0 : Int), (0 : Int), (0 : Int), (0 : Int), (0 : Int), (0 : Int), (0 : Int), (0 : Int), (0 : Int), (0 : Int), (0 : Int), (0 : Int), (0 : Int), (0 : Int), (0 : Int), (0 : Int), (0 : Int), (0 : Int), (0 : Int), (0 : Int), (0 : Int), (0 : Int)], (0 : Int)) ((13 : Int), (7 : Int), [], [], [], [], (0 :
 Int), (0 : Int), (0 : Int), (3 : Int), [])).1).2.2 = (0 : Int)) else false then decide ((U.aF (U.aJ ([(0 : Int), (0 : Int), (0 : Int), (0 : Int), (0 : Int), (0 : Int), (0 : Int), (0 : Int), (0 : Int), (0 : Int), (0 : Int), (0 : Int), (0 : Int), (0 : Int), (0 : Int), (0 : Int), (0 : Int), (0 : Int), (0 : Int), (0 : Int), (0 : Int), (0 : Int), (0 : Int), (0 : Int), (0 : Int), (0 : Int), (0
 : Int), (0 : Int), (0 : Int), (0 : Int), (0 : Int), (0 : Int)], (0 : Int)) ((13 : Int), (7 : Int), [], [], [], [], (0 : Int), (0 : Int), (0 : Int), (3 : Int), [])).2.1 (U.aJ ([(0 : Int), (0 : Int), (0 : Int), (0 : Int), (0 : Int), (0 : Int), (0 : Int), (0 : Int), (0 : Int), (0 : Int), (0 : Int), (0 : Int), (0 : Int), (0 : Int), (0 : Int), (0 : Int), (0 : Int), (0 : Int), (0 : Int), (0 : Int),
 (0 : Int), (0 : Int), (0 : Int), (0 : Int), (0 : Int), (0 : Int), (0 : Int), (0 : Int), (0 : Int), (0 : Int), (0 : Int), (0 : Int)], (0 : Int)) ((13 : Int), (7 : Int), [], [], [], [], (0 : Int), (0 : Int), (0 : Int), (3 : Int), [])).1).2.2 = (11 : Int)) else false then decide ((↑((((((((((((((((((((((((((((((((((U.num1 (Int.add (0 : Int) (1 : Int))).append (U.nN ((13 : Int), (7 : Int), [], [],
 [], [], (0 : Int), (0 : Int), (0 : Int), (3 : Int), []))).length.add (1 : Nat)).add (1 : Nat)).add (1 : Nat)).add (1 : Nat)).add (1 : Nat)).add (1 : Nat)).add (1 : Nat)).add (1 : Nat)).add (1 : Nat)).add (1 : Nat)).add (1 : Nat)).add (1 : Nat)).add (1 : Nat)).add (1 : Nat)).add (1 : Nat)).add (1 : Nat)).add (1 : Nat)).add (1 : Nat)).add (1 : Nat)).add (1 : Nat)).add (1 : Nat)).add (1 : Nat)).add (1
 : Nat)).add (1 : Nat)).add (1 : Nat)).add (1 : Nat)).add (1 : Nat)).add (1 : Nat)).add (1 : Nat)).add (1 : Nat)).add (1 : Nat)).add (1 : Nat)) : Int) = (64 : Int)) else false) = true -> (0 : Int) <= (39 : Int)) /\ ((bif bif bif decide ((U.aJ ([(0 : Int), (0 : Int), (0 : Int), (0 : Int), (0 : Int), (0 : Int), (0 : Int), (0 : Int), (0 : Int), (0 : Int), (0 : Int), (0 : Int), (0 : Int), (0 : Int),
 (0 : Int), (0 : Int), (0 : Int), (0 : Int), (0 : Int), (0 : Int), (0 : Int), (0 : Int), (0 : Int), (0 : Int), (0 : Int), (0 : Int), (0 : Int), (0 : Int), (0 : Int), (0 : Int), (0 : Int), (0 : Int)], (0 : Int)) ((13 : Int), (7 : Int), [], [], [], [], (0 : Int), (0 : Int), (0 : Int), (3 : Int), [])).2.2 = (0 : Int)) then decide ((U.aF ([(0 : Int), (0 : Int), (0 : Int), (0 : Int), (0 : Int), (0 :
 Int), (0 : Int), (0 : Int), (0 : Int), (0 : Int), (0 : Int), (0 : Int), (0 : Int), (0 : Int), (0 : Int), (0 : Int), (0 : Int), (0 : Int), (0 : Int), (0 : Int), (0 : Int), (0 : Int), (0 : Int), (0 : Int), (0 : Int), (0 : Int), (0 : Int), (0 : Int), (0 : Int), (0 : Int), (0 : Int), (0 : Int)], (0 : Int)) (U.aJ ([(0 : Int), (0 : Int), (0 : Int), (0 : Int), (0 : Int), (0 : Int), (0 : Int), (0 :
 Int), (0 : Int), (0 : Int), (0 : Int), (0 : Int), (0 : Int), (0 : Int), (0 : Int), (0 : Int), (0 : Int), (0 : Int), (0 : Int), (0 : Int), (0 : Int), (0 : Int), (0 : Int), (0 : Int), (0 : Int), (0 : Int), (0 : Int), (0 : Int), (0 : Int), (0 : Int), (0 : Int), (0 : Int)], (0 : Int)) ((13 : Int), (7 : Int), [], [], [], [], (0 : Int), (0 : Int), (0 : Int), (3 : Int), [])).1).2.2 = (0 : Int)) else false
 then decide ((U.aF (U.aJ ([(0 : Int), (0 : Int), (0 : Int), (0 : Int), (0 : Int), (0 : Int), (0 : Int), (0 : Int), (0 : Int), (0 : Int), (0 : Int), (0 : Int), (0 : Int), (0 : Int), (0 : Int), (0 : Int), (0 : Int), (0 : Int), (0 : Int), (0 : Int), (0 : Int), (0 : Int), (0 : Int), (0 : Int), (0 : Int), (0 : Int), (0 : Int), (0 : Int), (0 : Int), (0 : Int), (0 : Int), (0 : Int)], (0 : Int))
 ((13 : Int), (7 : Int), [], [], [], [], (0 : Int), (0 : Int), (0 : Int), (3 : Int), [])).2.1 (U.aJ ([(0 : Int), (0 : Int), (0 : Int), (0 : Int), (0 : Int), (0 : Int), (0 : Int), (0 : Int), (0 : Int), (0 : Int), (0 : Int), (0 : Int), (0 : Int), (0 : Int), (0 : Int), (0 : Int), (0 : Int), (0 : Int), (0 : Int), (0 : Int), (0 : Int), (0 : Int), (0 : Int), (0 : Int), (0 : Int), (0 : Int), (0 :
 Int), (0 : Int), (0 : Int), (0 : Int), (0 : Int), (0 : Int)], (0 : Int)) ((13 : Int), (7 : Int), [], [], [], [], (0 : Int), (0 : Int), (0 : Int), (3 : Int), [])).1).2.2 = (11 : Int)) else false then decide ((↑((((((((((((((((((((((((((((((((((U.num1 (Int.add (0 : Int) (1 : Int))).append (U.nN ((13 : Int), (7 : Int), [], [], [], [], (0 : Int), (0 : Int), (0 : Int), (3 : Int), []))).length.add (1 :
 Nat)).add (1 : Nat)).add (1 : Nat)).add (1 : Nat)).add (1 : Nat)).add (1 : Nat)).add (1 : Nat)).add (1 : Nat)).add (1 : Nat)).add (1 : Nat)).add (1 : Nat)).add (1 : Nat)).add (1 : Nat)).add (1 : Nat)).add (1 : Nat)).add (1 : Nat)).add (1 : Nat)).add (1 : Nat)).add (1 : Nat)).add (1 : Nat)).add (1 : Nat)).add (1 : Nat)).add (1 : Nat)).add (1 : Nat)).add (1 : Nat)).add (1 : Nat)).add (1 : Nat)).add
 (1 : Nat)).add (1 : Nat)).add (1 : Nat)).add (1 : Nat)).add (1 : Nat)) : Int) = (64 : Int)) else false) = true -> (39 : Int) < (↑((((((((((((((((((((((((((((((((((U.num1 (Int.add (0 : Int) (1 : Int))).append (U.nN ((13 : Int), (7 : Int), [], [], [], [], (0 : Int), (0 : Int), (0 : Int), (3 : Int), []))).length.add (1 : Nat)).add (1 : Nat)).add (1 : Nat)).add (1 : Nat)).add (1 : Nat)).add (1 :
 Nat)).add (1 : Nat)).add (1 : Nat)).add (1 : Nat)).add (1 : Nat)).add (1 : Nat)).add (1 : Nat)).add (1 : Nat)).add (1 : Nat)).add (1 : Nat)).add (1 : Nat)).add (1 : Nat)).add (1 : Nat)).add (1 : Nat)).add (1 : Nat)).add (1 : Nat)).add (1 : Nat)).add (1 : Nat)).add (1 : Nat)).add (1 : Nat)).add (1 : Nat)).add (1 : Nat)).add (1 : Nat)).add (1 : Nat)).add (1 : Nat)).add (1 : Nat)).add (1 : Nat)) :
 Int)) /\ (bif bif bif bif bif bif bif decide ((U.aJ ([(0 : Int), (0 : Int), (0 : Int), (0 : Int), (0 : Int), (0 : Int), (0 : Int), (0 : Int), (0 : Int), (0 : Int), (0 : Int), (0 : Int), (0 : Int), (0 : Int), (0 : Int), (0 : Int), (0 : Int), (0 : Int), (0 : Int), (0 : Int), (0 : Int), (0 : Int), (0 : Int), (0 : Int), (0 : Int), (0 : Int), (0 : Int), (0 : Int), (0 : Int), (0 : Int), (0 : Int), (0
 : Int)], (0 : Int)) ((13 : Int), (7 : Int), [], [], [], [], (0 : Int), (0 : Int), (0 : Int), (3 : Int), [])).2.2 = (0 : Int)) then decide ((U.aF ([(0 : Int), (0 : Int), (0 : Int), (0 : Int), (0 : Int), (0 : Int), (0 : Int), (0 : Int), (0 : Int), (0 : Int), (0 : Int), (0 : Int), (0 : Int), (0 : Int), (0 : Int), (0 : Int), (0 : Int), (0 : Int), (0 : Int), (0 : Int), (0 : Int), (0 : Int), (0 :
 Int), (0 : Int), (0 : Int), (0 : Int), (0 : Int), (0 : Int), (0 : Int), (0 : Int), (0 : Int), (0 : Int)], (0 : Int)) (U.aJ ([(0 : Int), (0 : Int), (0 : Int), (0 : Int), (0 : Int), (0 : Int), (0 : Int), (0 : Int), (0 : Int), (0 : Int), (0 : Int), (0 : Int), (0 : Int), (0 : Int), (0 : Int), (0 : Int), (0 : Int), (0 : Int), (0 : Int), (0 : Int), (0 : Int), (0 : Int), (0 : Int), (0 : Int), (0 :
 Int), (0 : Int), (0 : Int), (0 : Int), (0 : Int), (0 : Int), (0 : Int), (0 : Int)], (0 : Int)) ((13 : Int), (7 : Int), [], [], [], [], (0 : Int), (0 : Int), (0 : Int), (3 : Int), [])).1).2.2 = (0 : Int)) else false then decide ((U.aF (U.aJ ([(0 : Int), (0 : Int), (0 : Int), (0 : Int), (0 : Int), (0 : Int), (0 : Int), (0 : Int), (0 : Int), (0 : Int), (0 : Int), (0 : Int), (0 : Int), (0 :
 Int), (0 : Int), (0 : Int), (0 : Int), (0 : Int), (0 : Int), (0 : Int), (0 : Int), (0 : Int), (0 : Int), (0 : Int), (0 : Int), (0 : Int), (0 : Int), (0 : Int), (0 : Int), (0 : Int), (0 : Int), (0 : Int)], (0 : Int)) ((13 : Int), (7 : Int), [], [], [], [], (0 : Int), (0 : Int), (0 : Int), (3 : Int), [])).2.1 (U.aJ ([(0 : Int), (0 : Int), (0 : Int), (0 : Int), (0 : Int), (0 : Int), (0 : Int), (0
 : Int), (0 : Int), (0 : Int), (0 : Int), (0 : Int), (0 : Int), (0 : Int), (0 : Int), (0 : Int), (0 : Int), (0 : Int), (0 : Int), (0 : Int), (0 : Int), (0 : Int), (0 : Int), (0 : Int), (0 : Int), (0 : Int), (0 : Int), (0 : Int), (0 : Int), (0 : Int), (0 : Int), (0 : Int)], (0 : Int)) ((13 : Int), (7 : Int), [], [], [], [], (0 : Int), (0 : Int), (0 : Int), (3 : Int), [])).1).2.2 = (11 : Int)) else
 false then decide ((↑((((((((((((((((((((((((((((((((((U.num1 (Int.add (0 : Int) (1 : Int))).append (U.nN ((13 : Int), (7 : Int), [], [], [], [], (0 : Int), (0 : Int), (0 : Int), (3 : Int), []))).length.add (1 : Nat)).add (1 : Nat)).add (1 : Nat)).add (1 : Nat)).add (1 : Nat)).add (1 : Nat)).add (1 : Nat)).add (1 : Nat)).add (1 : Nat)).add (1 : Nat)).add (1 : Nat)).add (1 : Nat)).add (1 :
 Nat)).add (1 : Nat)).add (1 : Nat)).add (1 : Nat)).add (1 : Nat)).add (1 : Nat)).add (1 : Nat)).add (1 : Nat)).add (1 : Nat)).add (1 : Nat)).add (1 : Nat)).add (1 : Nat)).add (1 : Nat)).add (1 : Nat)).add (1 : Nat)).add (1 : Nat)).add (1 : Nat)).add (1 : Nat)).add (1 : Nat)).add (1 : Nat)) : Int) = (64 : Int)) else false then decide ((U.aJ ([(0 : Int), (0 : Int), (0 : Int), (0 : Int), (0 :
 Int), (0 : Int), (0 : Int), (0 : Int), (0 : Int), (0 : Int), (0 : Int), (0 : Int), (0 : Int), (0 : Int), (0 : Int), (0 : Int), (0 : Int), (0 : Int), (0 : Int), (0 : Int), (0 : Int), (0 : Int), (0 : Int), (0 : Int), (0 : Int), (0 : Int), (0 : Int), (0 : Int), (0 : Int), (0 : Int), (0 : Int), (0 : Int)], (0 : Int)) ((13 : Int), (7 : Int), [], [], [], [], (0 : Int), (0 : Int), (0 : Int), (3 : Int),
 [])).1.getD (39 : Nat) (0 : Int) = (1 : Int)) else false then decide ((U.aJ ([(0 : Int), (0 : Int), (0 : Int), (0 : Int), (0 : Int), (0 : Int), (0 : Int), (0 : Int), (0 : Int), (0 : Int), (0 : Int), (0 : Int), (0 : Int), (0 : Int), (0 : Int), (0 : Int), (0 : Int), (0 : Int), (0 : Int), (0 : Int), (0 : Int), (0 : Int), (0 : Int), (0 : Int), (0 : Int), (0 : Int), (0 : Int), (0 : Int), (0 : Int),
 (0 : Int), (0 : Int), (0 : Int)], (0 : Int)) ((13 : Int), (7 : Int), [], [], [], [], (0 : Int), (0 : Int), (0 : Int), (3 : Int), [])).2.1.2 = (1 : Int)) else false then (U.aF ([(0 : Int), (0 : Int), (0 : Int), (0 : Int), (0 : Int), (0 : Int), (0 : Int), (0 : Int), (0 : Int), (0 : Int), (0 : Int), (0 : Int), (0 : Int), (0 : Int), (0 : Int), (0 : Int), (0 : Int), (0 : Int), (0 : Int), (0 : Int),
 (0 : Int), (0 : Int), (0 : Int), (0 : Int), (0 : Int), (0 : Int), (0 : Int), (0 : Int), (0 : Int), (0 : Int), (0 : Int), (0 : Int)], (0 : Int)) (U.aJ ([(0 : Int), (0 : Int), (0 : Int), (0 : Int), (0 : Int), (0 : Int), (0 : Int), (0 : Int), (0 : Int), (0 : Int), (0 : Int), (0 : Int), (0 : Int), (0 : Int), (0 : Int), (0 : Int), (0 : Int), (0 : Int), (0 : Int), (0 : Int), (0 : Int), (0 : Int), (0
 : Int), (0 : Int), (0 : Int), (0 : Int), (0 : Int), (0 : Int), (0 : Int), (0 : Int), (0 : Int), (0 : Int)], (0 : Int)) ((13 : Int), (7 : Int), [], [], [], [], (0 : Int), (0 : Int), (0 : Int), (3 : Int), [])).1).1.1.beq (U.aJ ([(0 : Int), (0 : Int), (0 : Int), (0 : Int), (0 : Int), (0 : Int), (0 : Int), (0 : Int), (0 : Int), (0 : Int), (0 : Int), (0 : Int), (0 : Int), (0 : Int), (0 : Int), (0 :
 Int), (0 : Int), (0 : Int), (0 : Int), (0 : Int), (0 : Int), (0 : Int), (0 : Int), (0 : Int), (0 : Int), (0 : Int), (0 : Int), (0 : Int), (0 : Int), (0 : Int), (0 : Int), (0 : Int)], (0 : Int)) ((13 : Int), (7 : Int), [], [], [], [], (0 : Int), (0 : Int), (0 : Int), (3 : Int), [])).2.1.1 && (decide ((U.aF ([(0 : Int), (0 : Int), (0 : Int), (0 : Int), (0 : Int), (0 : Int), (0 : Int), (0 : Int),
 (0 : Int), (0 : Int), (0 : Int), (0 : Int), (0 : Int), (0 : Int), (0 : Int), (0 : Int), (0 : Int), (0 : Int), (0 : Int), (0 : Int), (0 : Int), (0 : Int), (0 : Int), (0 : Int), (0 : Int), (0 : Int), (0 : Int), (0 : Int), (0 : Int), (0 : Int), (0 : Int), (0 : Int)], (0 : Int)) (U.aJ ([(0 : Int), (0 : Int), (0 : Int), (0 : Int), (0 : Int), (0 : Int), (0 : Int), (0 : Int), (0 : Int), (0 : Int), (0
 : Int), (0 : Int), (0 : Int), (0 : Int), (0 : Int), (0 : Int), (0 : Int), (0 : Int), (0 : Int), (0 : Int), (0 : Int), (0 : Int), (0 : Int), (0 : Int), (0 : Int), (0 : Int), (0 : Int), (0 : Int), (0 : Int), (0 : Int), (0 : Int), (0 : Int)], (0 : Int)) ((13 : Int), (7 : Int), [], [], [], [], (0 : Int), (0 : Int), (0 : Int), (3 : Int), [])).1).1.2 = (U.aJ ([(0 : Int), (0 : Int), (0 : Int), (0 :
 Int), (0 : Int), (0 : Int), (0 : Int), (0 : Int), (0 : Int), (0 : Int), (0 : Int), (0 : Int), (0 : Int), (0 : Int), (0 : Int), (0 : Int), (0 : Int), (0 : Int), (0 : Int), (0 : Int), (0 : Int), (0 : Int), (0 : Int), (0 : Int), (0 : Int), (0 : Int), (0 : Int), (0 : Int), (0 : Int), (0 : Int), (0 : Int), (0 : Int)], (0 : Int)) ((13 : Int), (7 : Int), [], [], [], [], (0 : Int), (0 : Int), (0 : Int), (3
 : Int), [])).2.1.2) && true) else false then decide ((U.aF ([(0 : Int), (0 : Int), (0 : Int), (0 : Int), (0 : Int), (0 : Int), (0 : Int), (0 : Int), (0 : Int), (0 : Int), (0 : Int), (0 : Int), (0 : Int), (0 : Int), (0 : Int), (0 : Int), (0 : Int), (0 : Int), (0 : Int), (0 : Int), (0 : Int), (0 : Int), (0 : Int), (0 : Int), (0 : Int), (0 : Int), (0 : Int), (0 : Int), (0 : Int), (0 : Int), (0 :
 Int), (0 : Int)], (0 : Int)) (U.aJ ([(0 : Int), (0 : Int), (0 : Int), (0 : Int), (0 : Int), (0 : Int), (0 : Int), (0 : Int), (0 : Int), (0 : Int), (0 : Int), (0 : Int), (0 : Int), (0 : Int), (0 : Int), (0 : Int), (0 : Int), (0 : Int), (0 : Int), (0 : Int), (0 : Int), (0 : Int), (0 : Int), (0 : Int), (0 : Int), (0 : Int), (0 : Int), (0 : Int), (0 : Int), (0 : Int), (0 : Int), (0 : Int)], (0 :
 Int)) ((13 : Int), (7 : Int), [], [], [], [], (0 : Int), (0 : Int), (0 : Int), (3 : Int), [])).1).2.1.2.2.2.2.2.2.2.2.2.1 = (3 : Int)) else false) = true /\ True
def oN (l : List Event) (k8 : Int) : Prop := bif decide ((↑l.length : Int) > (50 : Int)) then true = true /\ True else ∃ (x0 : (List Int × Int) × List (List Int) × List (List Int × Int) × Int), ((⟨⟨[U.sL false ((Ty.int .i64).pair ((Ty.int .i64).pair (Ty.str.pair (Ty.str.pair ((Ty.int .i64).slice.pair (((Ty.int .i64).pair (.int .i64)).slice.pair ((Ty.int .i64).pair ((Ty.int
 .i64).pair ((Ty.int .i64).pair ((Ty.int .i64).pair (Ty.int .u8).slice)))))))))) l] ++ [U.sK .u8 k8] ++ U.n 3 ++ [U.sP 0 0] ++ [U.own 1] ++ [U.own 2] ++ [U.sI (0 : Int)] ++ U.n 104, [], [((0 : Nat), .obj [.arr (32 : Nat) (true || true) (.int .u8) [(0 : Int), (0 : Int), (0 : Int), (0 : Int), (0 : Int), (0 : Int), (0 : Int), (0 : Int), (0 : Int), (0 : Int), (0 : Int), (0 : Int), (0 : Int), (0 : Int),
 (0 : Int), (0 : Int), (0 : Int), (0 : Int), (0 : Int), (0 : Int), (0 : Int), (0 : Int), (0 : Int), (0 : Int), (0 : Int), (0 : Int), (0 : Int), (0 : Int), (0 : Int), (0 : Int), (0 : Int), (0 : Int)], .int .i64 (0 : Int)]), ((1 : Nat), .row (32 : Nat) (Ty.int .u8).slice true true []), ((2 : Nat), .row (26 : Nat) ((Ty.arr (32 : Nat) (.int .u8)).pair (.int .i64)) true true [])]⟩, (3 : Nat), []⟩ : St2)
 = U.fE l k8 x0.1 x0.2.1 x0.2.2.1 x0.2.2.2 /\ U.iF l k8 x0.1 x0.2.1 x0.2.2.1 x0.2.2.2) /\ ∀ (x : (List Int × Int) × List (List Int) × List (List Int × Int) × Int), U.iF l k8 x.1 x.2.1 x.2.2.1 x.2.2.2 -> bif decide (x.2.2.2 < (↑l.length : Int)) then (0 : Int) <= x.2.2.2 /\ x.2.2.2 < (↑l.length : Int) /\ bif U.great (l.getD x.2.2.2.toNat ((0 : Int), (0
 : Int), [], [], [], [], (0 : Int), (0 : Int), (0 : Int), (0 : Int), [])) then true = true /\ True else (0 : Int) <= x.2.2.2 /\ x.2.2.2 < (↑l.length : Int) /\ (U.bJ (l.getD x.2.2.2.toNat ((0 : Int), (0 : Int), [], [], [], [], (0 : Int), (0 : Int), (0 : Int), (0 : Int), []))).length <= (1000000000000 : Nat) /\ (U.eTo (l.getD x.2.2.2.toNat ((0 : Int), (0 : Int), [], [], [], [], (0 : Int), (0 : Int), (0 :
 Int), (0 : Int), []))).length <= (1000000000000 : Nat) /\ bif (U.aJ x.1 (l.getD x.2.2.2.toNat ((0 : Int), (0 : Int), [], [], [], [], (0 : Int), (0 : Int), (0 : Int), (0 : Int), []))).2.2 != (0 : Int) then ∃ (y : (List Int × Int) × List (List Int) × List (List Int × Int) × Int), U.fE l k8 x.1 x.2.1 x.2.2.1 (IntKind.i64.wrap (x.2.2.2.add (1 : Int))) = U.fE l
 k8 y.1 y.2.1 y.2.2.1 y.2.2.2 /\ U.iF l k8 y.1 y.2.1 y.2.2.1 y.2.2.2 /\ l.length.sub y.2.2.2.toNat < l.length.sub x.2.2.2.toNat else (U.aJ x.1 (l.getD x.2.2.2.toNat ((0 : Int), (0 : Int), [], [], [], [], (0 : Int), (0 : Int), (0 : Int), (0 : Int), []))).1.length <= (1000000000 : Nat) /\ ((bif (U.aF x.1 (U.aJ x.1 (l.getD x.2.2.2.toNat ((0 : Int), (0 : Int), [], [], [],
 [], (0 : Int), (0 : Int), (0 : Int), (0 : Int), []))).1).2.2 != (0 : Int) then true else !((U.aF x.1 (U.aJ x.1 (l.getD x.2.2.2.toNat ((0 : Int), (0 : Int), [], [], [], [], (0 : Int), (0 : Int), (0 : Int), (0 : Int), []))).1).1.1.beq (U.aJ x.1 (l.getD x.2.2.2.toNat ((0 : Int), (0 : Int), [], [], [], [], (0 : Int), (0 : Int), (0 : Int), (0 : Int), []))).2.1.1 && (decide ((U.aF x.1
 (U.aJ x.1 (l.getD x.2.2.2.toNat ((0 : Int), (0 : Int), [], [], [], [], (0 : Int), (0 : Int), (0 : Int), (0 : Int), []))).1).1.2 = (U.aJ x.1 (l.getD x.2.2.2.toNat ((0 : Int), (0 : Int), [], [], [], [], (0 : Int), (0 : Int), (0 : Int), (0 : Int), []))).2.1.2) && true))) = false -> (0 : Int) <= x.2.2.2) /\ ((bif (U.aF x.1 (U.aJ x.1 (l.getD x.2.2.2.toNat ((0 : Int), (0 : Int), [], [],
 [], [], (0 : Int), (0 : Int), (0 : Int), (0 : Int), []))).1).2.2 != (0 : Int) then true else !((U.aF x.1 (U.aJ x.1 (l.getD x.2.2.2.toNat ((0 : Int), (0 : Int), [], [], [], [], (0 : Int), (0 : Int), (0 : Int), (0 : Int), []))).1).1.1.beq (U.aJ x.1 (l.getD x.2.2.2.toNat ((0 : Int), (0 : Int), [], [], [], [], (0 : Int), (0 : Int), (0 : Int), (0 : Int), []))).2.1.1 && (decide ((U.aF
 x.1 (U.aJ x.1 (l.getD x.2.2.2.toNat ((0 : Int), (0 : Int), [], [], [], [], (0 : Int), (0 : Int), (0 : Int), (0 : Int), []))).1).1.2 = (U.aJ x.1 (l.getD x.2.2.2.toNat ((0 : Int), (0 : Int), [], [], [], [], (0 : Int), (0 : Int), (0 : Int), (0 : Int), []))).2.1.2) && true))) = false -> x.2.2.2 < (↑l.length : Int)) /\ bif bif bif (U.aF x.1 (U.aJ x.1 (l.getD x.2.2.2.toNat ((0 : Int),
 (0 : Int), [], [], [], [], (0 : Int), (0 : Int), (0 : Int), (0 : Int), []))).1).2.2 != (0 : Int) then true else !((U.aF x.1 (U.aJ x.1 (l.getD x.2.2.2.toNat ((0 : Int), (0 : Int), [], [], [], [], (0 : Int), (0 : Int), (0 : Int), (0 : Int), []))).1).1.1.beq (U.aJ x.1 (l.getD x.2.2.2.toNat ((0 : Int), (0 : Int), [], [], [], [], (0 : Int), (0 : Int), (0 : Int), (0 : Int), []))).2.1.1 &&
 (decide ((U.aF x.1 (U.aJ x.1 (l.getD x.2.2.2.toNat ((0 : Int), (0 : Int), [], [], [], [], (0 : Int), (0 : Int), (0 : Int), (0 : Int), []))).1).1.2 = (U.aJ x.1 (l.getD x.2.2.2.toNat ((0 : Int), (0 : Int), [], [], [], [], (0 : Int), (0 : Int), (0 : Int), (0 : Int), []))).2.1.2) && true)) then true else !U.FN (U.aF x.1 (U.aJ x.1 (l.getD x.2.2.2.toNat ((0 : Int), (0 : Int),
 [], [], [], [], (0 : Int), (0 : Int), (0 : Int), (0 : Int), []))).1).2.1 (l.getD x.2.2.2.toNat ((0 : Int), (0 : Int), [], [], [], [], (0 : Int), (0 : Int), (0 : Int), (0 : Int), [])) then false = true /\ True else (x.2.1.length.add ((1 : Nat))).mul (24 : Nat) <= (140737488355328 : Nat) /\ x.2.1.length.add ((1 : Nat)) <= maxLen /\ (x.2.2.1.length.add ((1 : Nat))).mul (40 : Nat) <= (140737488355328 : Nat)
 /\ x.2.2.1.length.add ((1 : Nat)) <= maxLen /\ ∃ (y : (List Int × Int) × List (List Int) × List (List Int × Int) × Int), U.fE l k8 (U.aJ x.1 (l.getD x.2.2.2.toNat ((0 : Int), (0 : Int), [], [], [], [], (0 : Int), (0 : Int), (0 : Int), (0 : Int), []))).2.1 (x.2.1.append ([[]].set (0 : Nat) (U.aJ x.1 (l.getD x.2.2.2.toNat ((0 : Int), (0 : Int), [], [], [], [], (0 : Int), (0
 : Int), (0 : Int), (0 : Int), []))).1)) (x.2.2.1.append ([([(0 : Int), (0 : Int), (0 : Int), (0 : Int), (0 : Int), (0 : Int), (0 : Int), (0 : Int), (0 : Int), (0 : Int), (0 : Int), (0 : Int), (0 : Int), (0 : Int), (0 : Int), (0 : Int), (0 : Int), (0 : Int), (0 : Int), (0 : Int), (0 : Int), (0 : Int), (0 : Int), (0 : Int), (0 : Int), (0 : Int), (0 : Int), (0 : Int), (0 : Int), (0 : Int), (0 : Int),
 (0 : Int)], (0 : Int))].set (0 : Nat) x.1)) (IntKind.i64.wrap (x.2.2.2.add (1 : Int))) = U.fE l k8 y.1 y.2.1 y.2.2.1 y.2.2.2 /\ U.iF l k8 y.1 y.2.1 y.2.2.1 y.2.2.2 /\ l.length.sub y.2.2.2.toNat < l.length.sub x.2.2.2.toNat else bif decide ((↑x.2.1.length : Int) = (0 : Int)) then true = true /\ True else (↑x.2.1.length : Int) ≠ (0 : Int) /\ ∃ (x0 : List (List Int) ×
 List (List Int × Int) × Int × Int), (U.gB x.2.1 x.2.2.1 ((IntKind.i64.wrap k8).tmod (↑x.2.1.length : Int)) (0 : Int) = U.gB x0.1 x0.2.1 x0.2.2.1 x0.2.2.2 /\ U.jo x0.1 x0.2.1 x0.2.2.1 x0.2.2.2) /\ ∀ (x : List (List Int) × List (List Int × Int) × Int × Int), U.jo x.1 x.2.1 x.2.2.1 x.2.2.2 -> bif decide (x.2.2.2 <
 (↑x.2.1.length : Int)) then (0 : Int) <= x.2.2.2 /\ x.2.2.2 < (↑x.2.1.length : Int) /\ x.2.2.2.toNat < x.2.1.length /\ (0 : Int) <= x.2.2.1 /\ x.2.2.1 < (↑x.1.length : Int) /\ x.2.2.1.toNat < x.1.length /\ (x.1.getD x.2.2.1.toNat []).length <= (1000000000 : Nat) /\ bif !decide (decide ((U.aF (x.2.1.getD x.2.2.2.toNat ([(0 : Int), (0 : Int), (0 : Int), (0 : Int), (0 : Int), (0 : Int), (0 : Int), (0 :
 Int), (0 : Int), (0 : Int), (0 : Int), (0 : Int), (0 : Int), (0 : Int), (0 : Int), (0 : Int), (0 : Int), (0 : Int), (0 : Int), (0 : Int), (0 : Int), (0 : Int), (0 : Int), (0 : Int), (0 : Int), (0 : Int), (0 : Int), (0 : Int), (0 : Int), (0 : Int), (0 : Int), (0 : Int)], (0 : Int))) (x.1.getD x.2.2.1.toNat [])).2.2 = (0 : Int)) = decide (x.2.2.2 = x.2.2.1)) then false = true /\ True else ∃ (y : List
 (List Int) × List (List Int × Int) × Int × Int), U.gB x.1 x.2.1 x.2.2.1 (IntKind.i64.wrap (x.2.2.2.add (1 : Int))) = U.gB y.1 y.2.1 y.2.2.1 y.2.2.2 /\ U.jo y.1 y.2.1 y.2.2.1 y.2.2.2 /\ y.2.1.length.sub y.2.2.2.toNat < x.2.1.length.sub x.2.2.2.toNat else true = true /\ True
end Go.Proofs.YtkhdeldobekciaaDoor
set_option linter.unusedSimpArgs false
set_option linter.unusedVariables false
set_option maxRecDepth 100000
namespace Go.Proofs.YtkhdeldobekciaaDoor
open Go.Vc
open Go.Vc.T
theorem UA : zW := by unfold zW; decide +kernel
theorem abz (l : List Int) : l.beq l = true := beq_self_eq_true l
theorem abA (e : Event) : U.FN e e = true := by unfold U.FN; simp
theorem acw {e : Event} (h : U.great e = false) : (U.bJ e).length <= 500 /\ (U.eTo e).length <= 500 := by
 unfold U.great at h
 simp only [Bool.or_eq_false_iff, decide_eq_false_iff_not] at h
 omega
theorem YH {c : Chain} {e : Event} (hl : c.1.length = 32) (h0 : 0 <= c.2) (h1 : c.2 < 1099511627776) : U.fD (U.kE c e) = (c.2 + 1, U.nN e, 0) := by
 unfold U.fD U.kE
 rw [List.drop_left' hl, jh _ (by omega) (by omega)]
 unfold U.fH
 simp only []
 rw [decide_eq_false (by omega : ¬ c.2 + 1 < 1), decide_eq_false (by omega : ¬ c.2 + 1 > 1099511627776)]; rfl
theorem YI {c : Chain} {e : Event} (hl : c.1.length = 32) (h0 : 0 <= c.2) (h1 : c.2 < 1099511627776) (hr : U.bI e = true) : U.ay (U.kE c e) = (c, e, 0) := by
 have hh := YH (e := e) hl h0 h1
 have hlen := H6 (c := c) (e := e) hl
 have hd : (U.kE c e).drop 40 = U.nN e := by
  unfold U.kE; rw [<- List.append_assoc]
  exact List.drop_left' (by rw [List.length_append, hl, dS])
 have ht : (U.kE c e).take 32 = c.1 := by unfold U.kE; exact List.take_left' hl
 rw [Qy (by omega) (by rw [hh]) (by rw [hd, Y1 hr]), hh, hd, ht, Y1 hr]
 show ((c.1, c.2 + 1 - 1), e, (0 : Int)) = _
 rw [show c.2 + 1 - 1 = c.2 by omega]
theorem NY {c d : Chain} {e : Event} (hl : c.1.length = 32) (h0 : 0 <= c.2) (h1 : c.2 < 1099511627776) (hr : U.bI e = true) : U.aF d (U.kE c e) = cond (decide (c = d)) (U.fO d (U.kE c e), e, 0) (U.dA, U.zeroE, 11) := by
 unfold U.aF; rw [YI hl h0 h1 hr]; rfl
theorem XB {c : Chain} {e : Event} (h : (U.aJ c e).2.2 = 0) : U.bI e = true /\ U.jO c = true /\ ¬ c.2 = 1099511627776 := by
 by_cases h1 : (!(U.bI e) || !(U.jO c)) = true
 ·rw [ER h1] at h; cases h
 ·simp only [Bool.or_eq_true, Bool.not_eq_true', not_or, Bool.not_eq_false] at h1
  refine ⟨h1.1, h1.2, fun h3 => ?_⟩
  rw [KY h1.1 h1.2 h3] at h; cases h
theorem acy (b : List Int) : (∀ x ∈ U.sum b, Byte x) /\ (U.sum b).length = 32 := by
 refine ⟨fun x hx => ?_, Ee _⟩
 unfold U.sum U.AU at hx
 obtain ⟨k, _, rfl⟩ := List.mem_map.1 hx
 rw [wrap_u8]
 exact ⟨by omega, by omega⟩
theorem abB : U.aay U.dA := by
 refine ⟨fun x hx => ?_, List.length_replicate, Int.le_refl 0, by show (0 : Int) <= _; omega⟩
 rw [(List.mem_replicate.1 hx).2]; exact ⟨by omega, by omega⟩
theorem Y5 {α : Type} {l : List α} {x d : α} {j : Nat} (h : j < l.length) : (l ++ [x]).getD j d = l.getD j d := by
 rw [List.getD_eq_getElem?_getD, List.getD_eq_getElem?_getD, List.getElem?_append_left h]
theorem Y6 {α : Type} {l : List α} {x d : α} : (l ++ [x]).getD l.length d = x := by
 rw [List.getD_eq_getElem?_getD, List.getElem?_append_right (Nat.le_refl _), Nat.sub_self]; rfl
theorem aaz {rs : List (List Int)} {cs : List Chain} {c : Chain} {b : List Int} (h : U.L6 rs cs) (hn : c.2 = rs.length) (hc : U.aay c) (hb : U.linked c b) : U.L6 (rs ++ [b]) (cs ++ [c]) := by
 refine ⟨by rw [List.length_append, List.length_append, h.1]; rfl, fun j hj => ?_⟩
 rw [List.length_append, List.length_singleton] at hj
 by_cases hjl : j < rs.length
 ·have hjc : j < cs.length := by rw [<- h.1]; exact hjl
  rw [Y5 hjl, Y5 hjc]; exact h.2 j hjl
 ·have : j = rs.length := by omega
  subst this
  rw [Y6, h.1, Y6]
  exact ⟨by rw [<- h.1]; exact hn, hc, hb⟩
theorem IW (l : List Event) (k8 : Int) (hv : nO [oC, .int .u8] (l, k8)) : oN l k8 := by
 unfold oN
 rw [cond_prop]
 refine ⟨fun _ => ⟨rfl, trivial⟩, fun h50 => ?_⟩
 have h50 : ¬ (l.length : Int) > 50 := of_decide_eq_false h50
 have hk8 := vU8 hv.2
 refine ⟨(U.dA, [], [], 0), ⟨rfl, ⟨Int.le_refl 0, by show (0 : Int) <= _; omega⟩, by omega, abB, rfl, Int.le_refl 0, rfl, fun j hj => absurd hj (Nat.not_lt_zero j)⟩, ?_⟩
 rintro ⟨c, rs, cs, i⟩ ⟨⟨i0, i1⟩, hl, hc, hcn, hri, hL⟩
 dsimp only at i0 i1 hl hc hcn hri hL ⊢
 rw [cond_prop]
 refine ⟨fun hi => ?_, fun hi => ?_⟩
 ·have hi : i < l.length := of_decide_eq_true hi
  have hve : Valid bQ (l.getD i.toNat (0, 0, [], [], [], [], 0, 0, 0, 0, [])) := by
   rw [getD_at (by omega)]; exact hv.1.1 _ (List.getElem_mem _)
  revert hve
  generalize he : l.getD i.toNat (0, 0, [], [], [], [], 0, 0, 0, 0, []) = e
  intro hve
  refine ⟨i0, hi, ?_⟩
  rw [cond_prop]
  refine ⟨fun _ => ⟨rfl, trivial⟩, fun hg => ?_⟩
  have hgn := acw hg
  refine ⟨i0, hi, by omega, by omega, ?_⟩
  rw [cond_prop]
  refine ⟨fun hz => ?_, fun hz => ?_⟩
  ·refine ⟨(c, rs, cs, i + 1), by rw [bU, dI (x := i + 1) (by omega) (by omega)], ⟨⟨by show 0 <= i + 1; omega, by show i + 1 <= _; omega⟩, hl, hc, hcn, by show (rs.length : Int) <= i + 1; omega, hL⟩, by simp only [dB]; omega⟩
  ·have hz : (U.aJ c e).2.2 = 0 := by simpa using hz
   obtain ⟨r1, r2, r3⟩ := XB hz
   have hle := OG r1
   have hlen := H6 (c := c) (e := e) hc.2.1
   have hc0 := hc.2.2
   rw [Qx r1 r2 r3]
   dsimp only
   rw [NY hc.2.1 hc0.1 (by omega) r1, decide_eq_true rfl]
   simp only [cond_true, abz, abA, decide_true, Bool.and_self]
   refine ⟨by omega, fun _ => i0, fun _ => hi, ?_⟩
   show _ /\ _
   refine ⟨by simp only [fC, jk]; omega, by simp only [fC, maxLen_eq]; omega, by have := hL.1; simp only [fC, jk]; omega, by have := hL.1; simp only [fC, maxLen_eq]; omega, ?_⟩
   refine ⟨(U.fO c (U.kE c e), rs ++ [U.kE c e], cs ++ [c], i + 1), by rw [bU, dI (x := i + 1) (by omega) (by omega)]; rfl, ⟨⟨by show 0 <= i + 1; omega, by show i + 1 <= _; omega⟩, hl, ?_, ?_, ?_, ?_⟩, by simp only [dB]; omega⟩
   ·have hs := acy (U.kE c e)
    refine ⟨hs.1, hs.2, ?_, ?_⟩ <;> (show _ <= _; unfold U.fO; simp only []; rw [dI (by omega) (by omega)]; omega)
   ·show IntKind.i64.wrap (c.2 + 1) = ((rs ++ [_]).length : Int)
    rw [dI (by omega) (by omega), List.length_append, hcn]; rfl
   ·show ((rs ++ [_]).length : Int) <= i + 1
    rw [List.length_append, List.length_singleton]; omega
   ·exact aaz hL hcn hc ⟨e, r1, hve, rfl⟩
 ·rw [cond_prop]
  refine ⟨fun _ => ⟨rfl, trivial⟩, fun hr0 => ?_⟩
  have hr0 : ¬ (rs.length : Int) = 0 := of_decide_eq_false hr0
  refine ⟨hr0, (rs, cs, (IntKind.i64.wrap k8).tmod rs.length, 0), ⟨rfl, ⟨Int.le_refl 0, by show (0 : Int) <= _; omega⟩, ?_, ?_, ?_, hL⟩, ?_⟩
  ·rw [dI (by omega) (by omega)]; exact Int.tmod_nonneg _ (by omega)
  ·rw [dI (by omega) (by omega)]; exact Int.tmod_lt_of_pos _ (by omega)
  ·show rs.length <= 50; omega
  clear hL hr0 hri hcn
  rintro ⟨rs, cs, k, i⟩ ⟨⟨i0, i1⟩, k0, k1, adI, hL⟩
  dsimp only at i0 i1 k0 k1 adI hL ⊢
  rw [cond_prop]
  refine ⟨fun hi => ?_, fun _ => ⟨rfl, trivial⟩⟩
  have hi : i < cs.length := of_decide_eq_true hi
  have hlc := hL.1
  obtain ⟨ki, kc, e, er, ev, eb⟩ := hL.2 k.toNat (by omega)
  obtain ⟨ii, _, _⟩ := hL.2 i.toNat (by omega)
  have hle := OG er
  have hlen := H6 (c := cs.getD k.toNat U.dA) (e := e) kc.2.1
  rw [eb]
  refine ⟨i0, hi, by omega, k0, k1, by omega, by omega, ?_⟩
  rw [NY kc.2.1 kc.2.2.1 (by omega) er]
  have hkey : decide ((bif decide (cs.getD k.toNat U.dA = cs.getD i.toNat U.dA) then (U.fO (cs.getD i.toNat U.dA) (U.kE (cs.getD k.toNat U.dA) e), e, (0 : Int)) else (U.dA, U.zeroE, 11)).2.2 = 0) = decide (i = k) := by
   by_cases hik : i = k
   ·subst hik; rw [decide_eq_true rfl, decide_eq_true rfl]; rfl
   ·rw [decide_eq_false hik, decide_eq_false (p := cs.getD k.toNat U.dA = cs.getD i.toNat U.dA) (fun h => hik (by rw [h, ii] at ki; omega))]; rfl
  show bif !decide (decide ((bif decide (cs.getD k.toNat U.dA = cs.getD i.toNat U.dA) then (U.fO (cs.getD i.toNat U.dA) (U.kE (cs.getD k.toNat U.dA) e), e, (0 : Int)) else (U.dA, U.zeroE, 11)).2.2 = 0) = decide (i = k)) then _ else _
  rw [hkey, decide_eq_true rfl]
  exact ⟨(rs, cs, k, i + 1), by rw [bU, dI (x := i + 1) (by omega) (by omega)], ⟨⟨by show 0 <= i + 1; omega, by show i + 1 <= (cs.length : Int); omega⟩, k0, k1, adI, hL⟩, by simp only [dB]; omega⟩
end Go.Proofs.YtkhdeldobekciaaDoor
set_option linter.unusedSimpArgs false
set_option maxRecDepth 100000
set_option linter.unusedVariables false
namespace Go.Proofs.YtkhdeldobekciaaDoor
open Go.Vc
theorem XC (x : aQ []) : bY Tryd.prog (bC wK) (La ) 5 (bV [] x) [] (Du ) = zW  := by kernel_rfl
theorem XD : Pok 5 [] (fun x => Du ) := by
 refine pk (L := fun x => La ) (l := wK) II (fun _ => rfl) ?_
 intro x hv hp
 rw [XC]
 exact UA
theorem XE : bH Tryd.prog gl 5 KZ := XD
theorem UC : bn Dv := .cons XE II
end Go.Proofs.YtkhdeldobekciaaDoor
