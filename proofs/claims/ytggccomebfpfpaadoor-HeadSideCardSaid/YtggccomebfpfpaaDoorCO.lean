/- What functions of this seat compute, in plain Lean. -/
import Derived.Test.YtggccomebfpfpaaDoorCB
import Derived.Test.YtggccomebfpfpaaDoorCC
set_option linter.unusedVariables false
set_option linter.unusedSimpArgs false
set_option maxRecDepth 100000
namespace Go.Proofs.YtggccomebfpfpaaDoor
open Go.Vc
namespace U
def sides (b : List Int) : Int -> List Field -> Prop
 | _, [] => True
 | p, f :: r => f.2.2.1 = p /\ f.1 ≠ [] /\ p + f.1.length < f.2.2.2 /\ f.2.2.2 <= b.length /\ (b.drop p.toNat).take f.1.length = f.1 /\ b.getD (p + f.1.length).toNat 0 = 58 /\ sides b f.2.2.2 r
def gZ : Int -> List Field -> Int
 | p, [] => p
 | _, f :: r => gZ f.2.2.2 r
end U
namespace U
def bn (b : List Int) (names : List (List Int)) (no : Bool) (o : List Int) (i : Int) : St2 := ⟨⟨[sL false (.int .u8) b] ++ [sL false .str names] ++ [sB no] ++ U.n 4 ++ [own 0] ++ U.n 3 ++ [sL true xZ (fieldsOf b)] ++ [sI (fieldsOf b).length] ++ [sI i] ++ U.n 19, [], [(0, .row 5 (.int .u8) true true o)]⟩, 1, []⟩
def dX (b : List Int) (names : List (List Int)) (no : Bool)  (o : List Int) (i : Int) : Prop := at_ (fieldsOf b) i /\ o ++ oZ b names no ((fieldsOf b).drop i.toNat) = oZ b names no (fieldsOf b)
def jZ (names : List (List Int)) (o : List Int) (fd : Field) (j : Int) : St2 := ⟨⟨[sL false .str names] ++ [sF 32 [1]] ++ U.n 5 ++ [sI names.length] ++ [sI j] ++ U.n 10, [], [(0, .row 5 (.int .u8) true true o), (1, .obj [.str fd.1, .str fd.2.1, .int .i64 fd.2.2.1, .int .i64 fd.2.2.2])]⟩, 2, []⟩
def pG (names : List (List Int)) (o' : List Int) (fd' : Field) (j' : Int) (o : List Int) (fd : Field) (j : Int) : Prop :=  o = o' /\ fd = fd' /\ at_ names j /\ (names.drop j.toNat).any (bU fd.1) = names.any (bU fd.1)
def fK (b : List Int) (q : Int) (i : Int) : St2 := ⟨⟨[sL false (.int .u8) b] ++ U.n 2 ++ [sL true xZ (fieldsOf b)] ++ [sI q] ++ [sI i] ++ U.n 113, [], []⟩, 0, []⟩
def iV (b : List Int)  (q : Int) (i : Int) : Prop := at_ (fieldsOf b) i /\ 0 <= q /\ q <= b.length /\ sides b q ((fieldsOf b).drop i.toNat) /\ gZ q ((fieldsOf b).drop i.toNat) = gZ 0 (fieldsOf b)
end U
def JL (b : List Int) (names : List (List Int)) (no : Bool) : Vc.Loop := ⟨{ keep := [0, 1, 2, 7, 11, 12, 13], wake := [(7, 5)] }, List Int × Int, fun x => U.bn b names no x.1 x.2, fun x0 x => U.dX b names no  x.1 x.2, fun x => (U.fieldsOf b).length - x.2.toNat, fun p => ∀ x, p x, fun _ h => h⟩
def Nu (names : List (List Int)) : Vc.Loop := ⟨{ keep := [0, 1, 7, 8] }, List Int × Field × Int, fun x => U.jZ names x.1 x.2.1 x.2.2, fun x0 x => U.pG names x0.1 x0.2.1 x0.2.2 x.1 x.2.1 x.2.2, fun x => names.length - x.2.2.toNat, fun p => ∀ x, p x, fun _ h => h⟩
def BQ (b : List Int) : Vc.Loop := ⟨{ keep := [0, 3, 4, 5] }, Int × Int, fun x => U.fK b x.1 x.2, fun x0 x => U.iV b  x.1 x.2, fun x => (U.fieldsOf b).length - x.2.toNat, fun p => ∀ x, p x, fun _ h => h⟩
def rV (b : List Int) (names : List (List Int)) (no : Bool) : Done := ⟨[b.length <= 4000], .one (.psl true (.int .u8) (U.Qr b names no)), [], []⟩
def G7 : Vc.Sum := .pure [aA, J8, .bool] false fun x => rV x.1 x.2.1 x.2.2
def G8 (b : List Int) (names : List (List Int)) (no : Bool) : Nat -> List V -> Nat -> Option Vc.Loop := fun f v k => cond (Nat.beq f 19 && Nat.beq k 3) (some (JL b names no)) <| cond (Nat.beq f 41 && Nat.beq k 2) (some (Nu names)) <| none
def rW : List (Nat × Ent) := (19, .sum G7) :: pF
def vk  : Done := ⟨[], .one (.bool true), [], []⟩
def BR : Vc.Sum := .pure [] false fun _ => vk
def BU  : Nat -> List V -> Nat -> Option Vc.Loop := fG
def vC : List (Nat × Ent) := (7, .sum BR) :: rW
def wz (b : List Int) : Nat -> List V -> Nat -> Option Vc.Loop := fun f v k => cond (Nat.beq f 5 && Nat.beq k 8) (some (BQ b)) <| none
end Go.Proofs.YtggccomebfpfpaaDoor
set_option maxRecDepth 100000
set_option linter.unusedVariables false
namespace Go.Proofs.YtggccomebfpfpaaDoor
open Go.Vc
def xq (b : List Int) (names : List (List Int)) (no : Bool) : Prop := b.length <= (1000000000 : Nat) /\ ∃ (x0 : List Int × Int), (U.bn b names no [] (0 : Int) = U.bn b names no x0.1 x0.2 /\ U.dX b names no x0.1 x0.2) /\ ∀ (x : List Int × Int), U.dX b names no x.1 x.2 -> bif decide (x.2 < (↑(U.fieldsOf b).length : Int)) then (0 : Int) <= x.2 /\ x.2 <
 (↑(U.fieldsOf b).length : Int) /\ ∃ (x0 : List Int × (List Int × List Int × Int × Int) × Int), (U.jZ names x.1 ((U.fieldsOf b).getD x.2.toNat ([], [], (0 : Int), (0 : Int))) (0 : Int) = U.jZ names x0.1 x0.2.1 x0.2.2 /\ U.pG names x0.1 x0.2.1 x0.2.2 x0.1 x0.2.1 x0.2.2) /\ ∀ (x_1 : List Int × (List Int × List Int × Int × Int) × Int), U.pG names x0.1 x0.2.1 x0.2.2
 x_1.1 x_1.2.1 x_1.2.2 -> bif decide (x_1.2.2 < (↑names.length : Int)) then (0 : Int) <= x_1.2.2 /\ x_1.2.2 < (↑names.length : Int) /\ bif U.bU x_1.2.1.1 (names.getD x_1.2.2.toNat []) then bif !decide (decide (x_1.2.2 >= (0 : Int)) = no) then (0 : Int) <= x_1.2.1.2.2.1 /\ x_1.2.1.2.2.1 <= x_1.2.1.2.2.2 /\ x_1.2.1.2.2.2 <= (↑b.length : Int) /\ (x_1.1.length.add (List.take (x_1.2.1.2.2.2.toNat.sub
 x_1.2.1.2.2.1.toNat) (List.drop x_1.2.1.2.2.1.toNat b)).length).mul (1 : Nat) <= (140737488355328 : Nat) /\ x_1.1.length.add (List.take (x_1.2.1.2.2.2.toNat.sub x_1.2.1.2.2.1.toNat) (List.drop x_1.2.1.2.2.1.toNat b)).length <= maxLen /\ ∃ (y : List Int × Int), U.bn b names no (x_1.1.append (List.take (x_1.2.1.2.2.2.toNat.sub x_1.2.1.2.2.1.toNat) (List.drop x_1.2.1.2.2.1.toNat b)))
 (IntKind.i64.wrap (x.2.add (1 : Int))) = U.bn b names no y.1 y.2 /\ U.dX b names no y.1 y.2 /\ (U.fieldsOf b).length.sub y.2.toNat < (U.fieldsOf b).length.sub x.2.toNat else ∃ (y : List Int × Int), U.bn b names no x_1.1 (IntKind.i64.wrap (x.2.add (1 : Int))) = U.bn b names no y.1 y.2 /\ U.dX b names no y.1 y.2 /\ (U.fieldsOf b).length.sub y.2.toNat <
 (U.fieldsOf b).length.sub x.2.toNat else ∃ (y : List Int × (List Int × List Int × Int × Int) × Int), U.jZ names x_1.1 x_1.2.1 (IntKind.i64.wrap (x_1.2.2.add (1 : Int))) = U.jZ names y.1 y.2.1 y.2.2 /\ U.pG names x0.1 x0.2.1 x0.2.2 y.1 y.2.1 y.2.2 /\ names.length.sub y.2.2.toNat < names.length.sub x_1.2.2.toNat else bif !decide (decide ((-1 : Int) >= (0 : Int)) = no) then
 (0 : Int) <= x_1.2.1.2.2.1 /\ x_1.2.1.2.2.1 <= x_1.2.1.2.2.2 /\ x_1.2.1.2.2.2 <= (↑b.length : Int) /\ (x_1.1.length.add (List.take (x_1.2.1.2.2.2.toNat.sub x_1.2.1.2.2.1.toNat) (List.drop x_1.2.1.2.2.1.toNat b)).length).mul (1 : Nat) <= (140737488355328 : Nat) /\ x_1.1.length.add (List.take (x_1.2.1.2.2.2.toNat.sub x_1.2.1.2.2.1.toNat) (List.drop x_1.2.1.2.2.1.toNat b)).length <= maxLen /\ ∃ (y : List Int ×
 Int), U.bn b names no (x_1.1.append (List.take (x_1.2.1.2.2.2.toNat.sub x_1.2.1.2.2.1.toNat) (List.drop x_1.2.1.2.2.1.toNat b))) (IntKind.i64.wrap (x.2.add (1 : Int))) = U.bn b names no y.1 y.2 /\ U.dX b names no y.1 y.2 /\ (U.fieldsOf b).length.sub y.2.toNat < (U.fieldsOf b).length.sub x.2.toNat else ∃ (y : List Int × Int), U.bn b names no x_1.1
 (IntKind.i64.wrap (x.2.add (1 : Int))) = U.bn b names no y.1 y.2 /\ U.dX b names no y.1 y.2 /\ (U.fieldsOf b).length.sub y.2.toNat < (U.fieldsOf b).length.sub x.2.toNat else (x.1.length.add ((2 : Nat))).mul (1 : Nat) <= (140737488355328 : Nat) /\ x.1.length.add ((2 : Nat)) <= maxLen /\ x.1.append [(13 : Int), (10 : Int)] = U.Qr b names no /\ True
def qK : Prop := (0 : Nat) < (14 : Nat) /\ (14 : Nat) <= (1000000000 : Nat) /\ ((bif (U.kU (U.fieldsOf (((((((((((((([(0 : Int), (0 : Int), (0 : Int), (0 : Int), (0 : Int), (0 : Int), (0 : Int), (0 : Int), (0 : Int), (0 : Int), (0 : Int), (0 : Int), (0 : Int), (0 : Int)].set (0 : Nat) (65 : Int)).set (1 : Nat) (58 : Int)).set (2 : Nat) (32 : Int)).set (3 : Nat) (49 : Int)).set (4 : Nat)
 (13 : Int)).set (5 : Nat) (10 : Int)).set (6 : Nat) (32 : Int)).set (7 : Nat) (50 : Int)).set (8 : Nat) (10 : Int)).set (9 : Nat) (98 : Int)).set (10 : Nat) (58 : Int)).set (11 : Nat) (10 : Int)).set (12 : Nat) (10 : Int)).set (13 : Nat) (120 : Int))) [(97 : Int)]).1.beq [(49 : Int), (32 : Int), (50 : Int)] then (U.kU (U.fieldsOf (((((((((((((([(0 : Int), (0 : Int), (0 : Int), (0 : Int), (0 :
 Int), (0 : Int), (0 : Int), (0 : Int), (0 : Int), (0 : Int), (0 : Int), (0 : Int), (0 : Int), (0 : Int)].set (0 : Nat) (65 : Int)).set (1 : Nat) (58 : Int)).set (2 : Nat) (32 : Int)).set (3 : Nat) (49 : Int)).set (4 : Nat) (13 : Int)).set (5 : Nat) (10 : Int)).set (6 : Nat) (32 : Int)).set (7 : Nat) (50 : Int)).set (8 : Nat) (10 : Int)).set (9 : Nat) (98 : Int)).set (10 : Nat) (58 : Int)).set (11 :
 Nat) (10 : Int)).set (12 : Nat) (10 : Int)).set (13 : Nat) (120 : Int))) [(97 : Int)]).2 else false) = true -> (14 : Nat) <= (1000000000 : Nat)) /\ ((bif bif (U.kU (U.fieldsOf (((((((((((((([(0 : Int), (0 : Int), (0 : Int), (0 : Int), (0 : Int), (0 : Int), (0 : Int), (0 : Int), (0 : Int), (0 : Int), (0 : Int), (0 : Int), (0 : Int), (0 : Int)].set (0 : Nat) (65 : Int)).set (1 : Nat) (58 : Int)).set
 (2 : Nat) (32 : Int)).set (3 : Nat) (49 : Int)).set (4 : Nat) (13 : Int)).set (5 : Nat) (10 : Int)).set (6 : Nat) (32 : Int)).set (7 : Nat) (50 : Int)).set (8 : Nat) (10 : Int)).set (9 : Nat) (98 : Int)).set (10 : Nat) (58 : Int)).set (11 : Nat) (10 : Int)).set (12 : Nat) (10 : Int)).set (13 : Nat) (120 : Int))) [(97 : Int)]).1.beq [(49 : Int), (32 : Int), (50 : Int)] then (U.kU (U.fieldsOf
 (((((((((((((([(0 : Int), (0 : Int), (0 : Int), (0 : Int), (0 : Int), (0 : Int), (0 : Int), (0 : Int), (0 : Int), (0 : Int), (0 : Int), (0 : Int), (0 : Int), (0 : Int)].set (0 : Nat) (65 : Int)).set (1 : Nat) (58 : Int)).set (2 : Nat) (32 : Int)).set (3 : Nat) (49 : Int)).set (4 : Nat) (13 : Int)).set (5 : Nat) (10 : Int)).set (6 : Nat) (32 : Int)).set (7 : Nat) (50 : Int)).set (8 : Nat) (10 :
 Int)).set (9 : Nat) (98 : Int)).set (10 : Nat) (58 : Int)).set (11 : Nat) (10 : Int)).set (12 : Nat) (10 : Int)).set (13 : Nat) (120 : Int))) [(97 : Int)]).2 else false then decide ((↑((2 : Nat)) : Int) = (2 : Int)) else false) = true -> (14 : Nat) <= (1000000000 : Nat)) /\ bif bif bif bif (U.kU (U.fieldsOf (((((((((((((([(0 : Int), (0 : Int), (0 : Int), (0 : Int), (0 : Int), (0 : Int), (0 : Int),
 (0 : Int), (0 : Int), (0 : Int), (0 : Int), (0 : Int), (0 : Int), (0 : Int)].set (0 : Nat) (65 : Int)).set (1 : Nat) (58 : Int)).set (2 : Nat) (32 : Int)).set (3 : Nat) (49 : Int)).set (4 : Nat) (13 : Int)).set (5 : Nat) (10 : Int)).set (6 : Nat) (32 : Int)).set (7 : Nat) (50 : Int)).set (8 : Nat) (10 : Int)).set (9 : Nat) (98 : Int)).set (10 : Nat) (58 : Int)).set (11 : Nat) (10 : Int)).set (12 :
 Nat) (10 : Int)).set (13 : Nat) (120 : Int))) [(97 : Int)]).1.beq [(49 : Int), (32 : Int), (50 : Int)] then (U.kU (U.fieldsOf (((((((((((((([(0 : Int), (0 : Int), (0 : Int), (0 : Int), (0 : Int), (0 : Int), (0 : Int), (0 : Int), (0 : Int), (0 : Int), (0 : Int), (0 : Int), (0 : Int), (0 : Int)].set (0 : Nat) (65 : Int)).set (1 : Nat) (58 : Int)).set (2 : Nat) (32 : Int)).set (3 : Nat) (49 :
 Int)).set (4 : Nat) (13 : Int)).set (5 : Nat) (10 : Int)).set (6 : Nat) (32 : Int)).set (7 : Nat) (50 : Int)).set (8 : Nat) (10 : Int)).set (9 : Nat) (98 : Int)).set (10 : Nat) (58 : Int)).set (11 : Nat) (10 : Int)).set (12 : Nat) (10 : Int)).set (13 : Nat) (120 : Int))) [(97 : Int)]).2 else false then decide ((↑((2 : Nat)) : Int) = (2 : Int)) else false then decide (U.textOf (((((((((((((([(0 :
 Int), (0 : Int), (0 : Int), (0 : Int), (0 : Int), (0 : Int), (0 : Int), (0 : Int), (0 : Int), (0 : Int), (0 : Int), (0 : Int), (0 : Int), (0 : Int)].set (0 : Nat) (65 : Int)).set (1 : Nat) (58 : Int)).set (2 : Nat) (32 : Int)).set (3 : Nat) (49 : Int)).set (4 : Nat) (13 : Int)).set (5 : Nat) (10 : Int)).set (6 : Nat) (32 : Int)).set (7 : Nat) (50 : Int)).set (8 : Nat) (10 : Int)).set (9 : Nat) (98
 : Int)).set (10 : Nat) (58 : Int)).set (11 : Nat) (10 : Int)).set (12 : Nat) (10 : Int)).set (13 : Nat) (120 : Int)) = IntKind.i64.wrap ((↑((14 : Nat)) : Int).sub (1 : Int))) else false then (14 : Nat) <= (4000 : Nat) /\ (bif (U.Qr (((((((((((((([(0 : Int), (0 : Int), (0 : Int), (0 : Int), (0 : Int), (0 : Int), (0 : Int), (0 : Int), (0 : Int), (0 : Int), (0 : Int), (0 : Int), (0 : Int), (0 :
 Int)].set (0 : Nat) (65 : Int)).set (1 : Nat) (58 : Int)).set (2 : Nat) (32 : Int)).set (3 : Nat) (49 : Int)).set (4 : Nat) (13 : Int)).set (5 : Nat) (10 : Int)).set (6 : Nat) (32 : Int)).set (7 : Nat) (50 : Int)).set (8 : Nat) (10 : Int)).set (9 : Nat) (98 : Int)).set (10 : Nat) (58 : Int)).set (11 : Nat) (10 : Int)).set (12 : Nat) (10 : Int)).set (13 : Nat) (120 : Int)) ([[]].set (0 : Nat) [(65 :
 Int)]) true).beq [(98 : Int), (58 : Int), (10 : Int), (13 : Int), (10 : Int)] then decide ((↑((4 : Nat)) : Int) = (4 : Int)) else false) = true /\ True else false = true /\ True
def lN (b : List Int) : Prop := bif decide ((↑b.length : Int) > (4000 : Int)) then true = true /\ True else b.length <= (1000000000 : Nat) /\ ∃ (x0 : Int × Int), (U.fK b (0 : Int) (0 : Int) = U.fK b x0.1 x0.2 /\ U.iV b x0.1 x0.2) /\ ∀ (x : Int × Int), U.iV b x.1 x.2 -> bif decide (x.2 < (↑(U.fieldsOf b).length : Int)) then (0 :
 Int) <= x.2 /\ x.2 < (↑(U.fieldsOf b).length : Int) /\ ((((U.fieldsOf b).getD x.2.toNat ([], [], (0 : Int), (0 : Int))).2.2.1 != x.1) = false -> (0 : Int) <= x.2) /\ ((((U.fieldsOf b).getD x.2.toNat ([], [], (0 : Int), (0 : Int))).2.2.1 != x.1) = false -> x.2 < (↑(U.fieldsOf b).length : Int)) /\ ((bif ((U.fieldsOf b).getD x.2.toNat ([], [], (0 : Int), (0 : Int))).2.2.1 != x.1 then true else decide
 (((U.fieldsOf b).getD x.2.toNat ([], [], (0 : Int), (0 : Int))).2.2.2 <= x.1)) = false -> (0 : Int) <= x.2) /\ ((bif ((U.fieldsOf b).getD x.2.toNat ([], [], (0 : Int), (0 : Int))).2.2.1 != x.1 then true else decide (((U.fieldsOf b).getD x.2.toNat ([], [], (0 : Int), (0 : Int))).2.2.2 <= x.1)) = false -> x.2 < (↑(U.fieldsOf b).length : Int)) /\ ((bif bif ((U.fieldsOf b).getD x.2.toNat ([], [], (0 : Int),
 (0 : Int))).2.2.1 != x.1 then true else decide (((U.fieldsOf b).getD x.2.toNat ([], [], (0 : Int), (0 : Int))).2.2.2 <= x.1) then true else decide (((U.fieldsOf b).getD x.2.toNat ([], [], (0 : Int), (0 : Int))).2.2.2 > (↑b.length : Int))) = false -> (0 : Int) <= x.2) /\ ((bif bif ((U.fieldsOf b).getD x.2.toNat ([], [], (0 : Int), (0 : Int))).2.2.1 != x.1 then true else decide (((U.fieldsOf b).getD
 x.2.toNat ([], [], (0 : Int), (0 : Int))).2.2.2 <= x.1) then true else decide (((U.fieldsOf b).getD x.2.toNat ([], [], (0 : Int), (0 : Int))).2.2.2 > (↑b.length : Int))) = false -> x.2 < (↑(U.fieldsOf b).length : Int)) /\ ((bif bif bif ((U.fieldsOf b).getD x.2.toNat ([], [], (0 : Int), (0 : Int))).2.2.1 != x.1 then true else decide (((U.fieldsOf b).getD x.2.toNat ([], [], (0 : Int), (0 : Int))).2.2.2
 <= x.1) then true else decide (((U.fieldsOf b).getD x.2.toNat ([], [], (0 : Int), (0 : Int))).2.2.2 > (↑b.length : Int)) then true else decide ((↑((U.fieldsOf b).getD x.2.toNat ([], [], (0 : Int), (0 : Int))).1.length : Int) = (0 : Int))) = false -> (0 : Int) <= x.2) /\ ((bif bif bif ((U.fieldsOf b).getD x.2.toNat ([], [], (0 : Int), (0 : Int))).2.2.1 != x.1 then true else decide (((U.fieldsOf b).getD
 x.2.toNat ([], [], (0 : Int), (0 : Int))).2.2.2 <= x.1) then true else decide (((U.fieldsOf b).getD x.2.toNat ([], [], (0 : Int), (0 : Int))).2.2.2 > (↑b.length : Int)) then true else decide ((↑((U.fieldsOf b).getD x.2.toNat ([], [], (0 : Int), (0 : Int))).1.length : Int) = (0 : Int))) = false -> x.2 < (↑(U.fieldsOf b).length : Int)) /\ ((bif bif bif bif ((U.fieldsOf b).getD x.2.toNat ([], [], (0 :
 Int), (0 : Int))).2.2.1 != x.1 then true else decide (((U.fieldsOf b).getD x.2.toNat ([], [], (0 : Int), (0 : Int))).2.2.2 <= x.1) then true else decide (((U.fieldsOf b).getD x.2.toNat ([], [], (0 : Int), (0 : Int))).2.2.2 > (↑b.length : Int)) then true else decide ((↑((U.fieldsOf b).getD x.2.toNat ([], [], (0 : Int), (0 : Int))).1.length : Int) = (0 : Int)) then true else decide (IntKind.i64.wrap
 (x.1.add (↑((U.fieldsOf b).getD x.2.toNat ([], [], (0 : Int), (0 : Int))).1.length : Int)) >= (↑b.length : Int))) = false -> (0 : Int) <= x.2) /\ ((bif bif bif bif ((U.fieldsOf b).getD x.2.toNat ([], [], (0 : Int), (0 : Int))).2.2.1 != x.1 then true else decide (((U.fieldsOf b).getD x.2.toNat ([], [], (0 : Int), (0 : Int))).2.2.2 <= x.1) then true else decide (((U.fieldsOf b).getD x.2.toNat ([], [], (0
 : Int), (0 : Int))).2.2.2 > (↑b.length : Int)) then true else decide ((↑((U.fieldsOf b).getD x.2.toNat ([], [], (0 : Int), (0 : Int))).1.length : Int) = (0 : Int)) then true else decide (IntKind.i64.wrap (x.1.add (↑((U.fieldsOf b).getD x.2.toNat ([], [], (0 : Int), (0 : Int))).1.length : Int)) >= (↑b.length : Int))) = false -> x.2 < (↑(U.fieldsOf b).length : Int)) /\ ((bif bif bif bif ((U.fieldsOf
 b).getD x.2.toNat ([], [], (0 : Int), (0 : Int))).2.2.1 != x.1 then true else decide (((U.fieldsOf b).getD x.2.toNat ([], [], (0 : Int), (0 : Int))).2.2.2 <= x.1) then true else decide (((U.fieldsOf b).getD x.2.toNat ([], [], (0 : Int), (0 : Int))).2.2.2 > (↑b.length : Int)) then true else decide ((↑((U.fieldsOf b).getD x.2.toNat ([], [], (0 : Int), (0 : Int))).1.length : Int) = (0 : Int)) then true
 else decide (IntKind.i64.wrap (x.1.add (↑((U.fieldsOf b).getD x.2.toNat ([], [], (0 : Int), (0 : Int))).1.length : Int)) >= (↑b.length : Int))) = false -> (0 : Int) <= x.1) /\ ((bif bif bif bif ((U.fieldsOf b).getD x.2.toNat ([], [], (0 : Int), (0 : Int))).2.2.1 != x.1 then true else decide (((U.fieldsOf b).getD x.2.toNat ([], [], (0 : Int), (0 : Int))).2.2.2 <= x.1) then true else decide (((U.fieldsOf
 b).getD x.2.toNat ([], [], (0 : Int), (0 : Int))).2.2.2 > (↑b.length : Int)) then true else decide ((↑((U.fieldsOf b).getD x.2.toNat ([], [], (0 : Int), (0 : Int))).1.length : Int) = (0 : Int)) then true else decide (IntKind.i64.wrap (x.1.add (↑((U.fieldsOf b).getD x.2.toNat ([], [], (0 : Int), (0 : Int))).1.length : Int)) >= (↑b.length : Int))) = false -> x.1 <= IntKind.i64.wrap (x.1.add
 (↑((U.fieldsOf b).getD x.2.toNat ([], [], (0 : Int), (0 : Int))).1.length : Int))) /\ ((bif bif bif bif ((U.fieldsOf b).getD x.2.toNat ([], [], (0 : Int), (0 : Int))).2.2.1 != x.1 then true else decide (((U.fieldsOf b).getD x.2.toNat ([], [], (0 : Int), (0 : Int))).2.2.2 <= x.1) then true else decide (((U.fieldsOf b).getD x.2.toNat ([], [], (0 : Int), (0 : Int))).2.2.2 > (↑b.length : Int)) then true
 else decide ((↑((U.fieldsOf b).getD x.2.toNat ([], [], (0 : Int), (0 : Int))).1.length : Int) = (0 : Int)) then true else decide (IntKind.i64.wrap (x.1.add (↑((U.fieldsOf b).getD x.2.toNat ([], [], (0 : Int), (0 : Int))).1.length : Int)) >= (↑b.length : Int))) = false -> IntKind.i64.wrap (x.1.add (↑((U.fieldsOf b).getD x.2.toNat ([], [], (0 : Int), (0 : Int))).1.length : Int)) <= (↑b.length : Int)) /\
 ((bif bif bif bif ((U.fieldsOf b).getD x.2.toNat ([], [], (0 : Int), (0 : Int))).2.2.1 != x.1 then true else decide (((U.fieldsOf b).getD x.2.toNat ([], [], (0 : Int), (0 : Int))).2.2.2 <= x.1) then true else decide (((U.fieldsOf b).getD x.2.toNat ([], [], (0 : Int), (0 : Int))).2.2.2 > (↑b.length : Int)) then true else decide ((↑((U.fieldsOf b).getD x.2.toNat ([], [], (0 : Int), (0 :
 Int))).1.length : Int) = (0 : Int)) then true else decide (IntKind.i64.wrap (x.1.add (↑((U.fieldsOf b).getD x.2.toNat ([], [], (0 : Int), (0 : Int))).1.length : Int)) >= (↑b.length : Int))) = false -> (0 : Int) <= x.2) /\ ((bif bif bif bif ((U.fieldsOf b).getD x.2.toNat ([], [], (0 : Int), (0 : Int))).2.2.1 != x.1 then true else decide (((U.fieldsOf b).getD x.2.toNat ([], [], (0 : Int), (0 :
 Int))).2.2.2 <= x.1) then true else decide (((U.fieldsOf b).getD x.2.toNat ([], [], (0 : Int), (0 : Int))).2.2.2 > (↑b.length : Int)) then true else decide ((↑((U.fieldsOf b).getD x.2.toNat ([], [], (0 : Int), (0 : Int))).1.length : Int) = (0 : Int)) then true else decide (IntKind.i64.wrap (x.1.add (↑((U.fieldsOf b).getD x.2.toNat ([], [], (0 : Int), (0 : Int))).1.length : Int)) >= (↑b.length :
 Int))) = false -> x.2 < (↑(U.fieldsOf b).length : Int)) /\ ((bif bif bif bif bif ((U.fieldsOf b).getD x.2.toNat ([], [], (0 : Int), (0 : Int))).2.2.1 != x.1 then true else decide (((U.fieldsOf b).getD x.2.toNat ([], [], (0 : Int), (0 : Int))).2.2.2 <= x.1) then true else decide (((U.fieldsOf b).getD x.2.toNat ([], [], (0 : Int), (0 : Int))).2.2.2 > (↑b.length : Int)) then true else decide
 ((↑((U.fieldsOf b).getD x.2.toNat ([], [], (0 : Int), (0 : Int))).1.length : Int) = (0 : Int)) then true else decide (IntKind.i64.wrap (x.1.add (↑((U.fieldsOf b).getD x.2.toNat ([], [], (0 : Int), (0 : Int))).1.length : Int)) >= (↑b.length : Int)) then true else !U.bU (List.take ((IntKind.i64.wrap (x.1.add (↑((U.fieldsOf b).getD x.2.toNat ([], [], (0 : Int), (0 : Int))).1.length :
 Int))).toNat.sub x.1.toNat) (List.drop x.1.toNat b)) ((U.fieldsOf b).getD x.2.toNat ([], [], (0 : Int), (0 : Int))).1) = false -> (0 : Int) <= x.2) /\ ((bif bif bif bif bif ((U.fieldsOf b).getD x.2.toNat ([], [], (0 : Int), (0 : Int))).2.2.1 != x.1 then true else decide (((U.fieldsOf b).getD x.2.toNat ([], [], (0 : Int), (0 : Int))).2.2.2 <= x.1) then true else decide (((U.fieldsOf b).getD x.2.toNat
 ([], [], (0 : Int), (0 : Int))).2.2.2 > (↑b.length : Int)) then true else decide ((↑((U.fieldsOf b).getD x.2.toNat ([], [], (0 : Int), (0 : Int))).1.length : Int) = (0 : Int)) then true else decide (IntKind.i64.wrap (x.1.add (↑((U.fieldsOf b).getD x.2.toNat ([], [], (0 : Int), (0 : Int))).1.length : Int)) >= (↑b.length : Int)) then true else !U.bU (List.take ((IntKind.i64.wrap (x.1.add
 (↑((U.fieldsOf b).getD x.2.toNat ([], [], (0 : Int), (0 : Int))).1.length : Int))).toNat.sub x.1.toNat) (List.drop x.1.toNat b)) ((U.fieldsOf b).getD x.2.toNat ([], [], (0 : Int), (0 : Int))).1) = false -> x.2 < (↑(U.fieldsOf b).length : Int)) /\ ((bif bif bif bif bif ((U.fieldsOf b).getD x.2.toNat ([], [], (0 : Int), (0 : Int))).2.2.1 != x.1 then true else decide (((U.fieldsOf b).getD x.2.toNat ([],
 [], (0 : Int), (0 : Int))).2.2.2 <= x.1) then true else decide (((U.fieldsOf b).getD x.2.toNat ([], [], (0 : Int), (0 : Int))).2.2.2 > (↑b.length : Int)) then true else decide ((↑((U.fieldsOf b).getD x.2.toNat ([], [], (0 : Int), (0 : Int))).1.length : Int) = (0 : Int)) then true else decide (IntKind.i64.wrap (x.1.add (↑((U.fieldsOf b).getD x.2.toNat ([], [], (0 : Int), (0 : Int))).1.length : Int))
 >= (↑b.length : Int)) then true else !U.bU (List.take ((IntKind.i64.wrap (x.1.add (↑((U.fieldsOf b).getD x.2.toNat ([], [], (0 : Int), (0 : Int))).1.length : Int))).toNat.sub x.1.toNat) (List.drop x.1.toNat b)) ((U.fieldsOf b).getD x.2.toNat ([], [], (0 : Int), (0 : Int))).1) = false -> (0 : Int) <= IntKind.i64.wrap (x.1.add (↑((U.fieldsOf b).getD x.2.toNat ([], [], (0 : Int), (0 : Int))).1.length
 : Int))) /\ ((bif bif bif bif bif ((U.fieldsOf b).getD x.2.toNat ([], [], (0 : Int), (0 : Int))).2.2.1 != x.1 then true else decide (((U.fieldsOf b).getD x.2.toNat ([], [], (0 : Int), (0 : Int))).2.2.2 <= x.1) then true else decide (((U.fieldsOf b).getD x.2.toNat ([], [], (0 : Int), (0 : Int))).2.2.2 > (↑b.length : Int)) then true else decide ((↑((U.fieldsOf b).getD x.2.toNat ([], [], (0 : Int), (0 :
 Int))).1.length : Int) = (0 : Int)) then true else decide (IntKind.i64.wrap (x.1.add (↑((U.fieldsOf b).getD x.2.toNat ([], [], (0 : Int), (0 : Int))).1.length : Int)) >= (↑b.length : Int)) then true else !U.bU (List.take ((IntKind.i64.wrap (x.1.add (↑((U.fieldsOf b).getD x.2.toNat ([], [], (0 : Int), (0 : Int))).1.length : Int))).toNat.sub x.1.toNat) (List.drop x.1.toNat b)) ((U.fieldsOf b).getD
 x.2.toNat ([], [], (0 : Int), (0 : Int))).1) = false -> IntKind.i64.wrap (x.1.add (↑((U.fieldsOf b).getD x.2.toNat ([], [], (0 : Int), (0 : Int))).1.length : Int)) < (↑b.length : Int)) /\ bif bif bif bif bif bif bif ((U.fieldsOf b).getD x.2.toNat ([], [], (0 : Int), (0 : Int))).2.2.1 != x.1 then true else decide (((U.fieldsOf b).getD x.2.toNat ([], [], (0 : Int), (0 : Int))).2.2.2 <= x.1) then true
 else decide (((U.fieldsOf b).getD x.2.toNat ([], [], (0 : Int), (0 : Int))).2.2.2 > (↑b.length : Int)) then true else decide ((↑((U.fieldsOf b).getD x.2.toNat ([], [], (0 : Int), (0 : Int))).1.length : Int) = (0 : Int)) then true else decide (IntKind.i64.wrap (x.1.add (↑((U.fieldsOf b).getD x.2.toNat ([], [], (0 : Int), (0 : Int))).1.length : Int)) >= (↑b.length : Int)) then true else !U.bU
 (List.take ((IntKind.i64.wrap (x.1.add (↑((U.fieldsOf b).getD x.2.toNat ([], [], (0 : Int), (0 : Int))).1.length : Int))).toNat.sub x.1.toNat) (List.drop x.1.toNat b)) ((U.fieldsOf b).getD x.2.toNat ([], [], (0 : Int), (0 : Int))).1 then true else b.getD (IntKind.i64.wrap (x.1.add (↑((U.fieldsOf b).getD x.2.toNat ([], [], (0 : Int), (0 : Int))).1.length : Int))).toNat (0 : Int) != (58 : Int) then
 false = true /\ True else (0 : Int) <= x.2 /\ x.2 < (↑(U.fieldsOf b).length : Int) /\ ∃ (y : Int × Int), U.fK b ((U.fieldsOf b).getD x.2.toNat ([], [], (0 : Int), (0 : Int))).2.2.2 (IntKind.i64.wrap (x.2.add (1 : Int))) = U.fK b y.1 y.2 /\ U.iV b y.1 y.2 /\ (U.fieldsOf b).length.sub y.2.toNat < (U.fieldsOf b).length.sub x.2.toNat else b.length <= (1000000000
 : Nat) /\ (bif decide (U.textOf b >= x.1) then decide (U.textOf b <= (↑b.length : Int)) else false) = true /\ True
end Go.Proofs.YtggccomebfpfpaaDoor
set_option linter.unusedSimpArgs false
set_option linter.unusedVariables false
set_option maxRecDepth 100000
namespace Go.Proofs.YtggccomebfpfpaaDoor
open Go.Vc
open Go.Vc.T
theorem wB (b : List Int) : ∀ (a c : List Field) (p : Int), U.sides b p (a ++ c) ↔ U.sides b p a /\ U.sides b (U.gZ p a) c
 | [], c, p => by simp [U.sides, U.gZ]
 | f :: a, c, p => by
   have ih := wB b a c f.2.2.2
   simp only [List.cons_append, U.sides, U.gZ, ih, and_assoc]
theorem EY : ∀ (a c : List Field) (p : Int), U.gZ p (a ++ c) = U.gZ (U.gZ p a) c
 | [], _, _ => rfl
 | _ :: a, c, _ => EY a c _
theorem G9 (b : List Int) : ∀ (fs : List Field) (p e : Int) (v : List Int), fs ≠ [] -> U.sides b p fs -> U.gZ p fs <= e -> e <= b.length -> U.sides b p (U.setLast fs v e) /\ U.gZ p (U.setLast fs v e) = e
 | [], _, _, _, h, _, _, _ => absurd rfl h
 | [f], p, e, v, _, ⟨h1, h2, h3, h4, h5, h6, _⟩, hE, hb => by
   have hE : f.2.2.2 <= e := hE
   exact ⟨⟨h1, h2, by show p + (f.1.length : Int) < e; omega, hb, h5, h6, trivial⟩, rfl⟩
 | f :: g :: r, p, e, v, _, ⟨h1, h2, h3, h4, h5, h6, h7⟩, hE, hb => by
   have ih := G9 b (g :: r) f.2.2.2 e v (by simp) h7 hE hb
   have hs : U.setLast (f :: g :: r) v e = f :: U.setLast (g :: r) v e := rfl
   rw [hs]
   exact ⟨⟨h1, h2, h3, h4, h5, h6, ih.1⟩, ih.2⟩
theorem OG (fs : List Field) (n v w : List Int) (p q e : Int) : U.setLast (fs ++ [(n, w, p, q)]) v e = fs ++ [(n, v, p, e)] := by
 unfold U.setLast
 have hl : (fs ++ [((n, w, p, q) : Field)]).length - 1 = fs.length := by simp
 rw [hl, getD_at (by simp), List.set_append_right _ _ (Nat.le_refl _)]
 simp
theorem Ej (m : List Int) (c : Int) : ∃ k, U.cZ m [c] = m.take k := by
 rw [TB]; cases U.dM m [c]
 ·exact ⟨m.length, (List.take_length).symm⟩
 ·exact ⟨_, rfl⟩
theorem SX (l : List Int) : U.says l = l.take (U.says l).length := by
 have key : ∃ k, U.says l = l.take k := by
  unfold U.says
  cases U.dM l [10]
  ·exact ⟨l.length, (List.take_length).symm⟩
  ·obtain ⟨k, hk⟩ := Ej l 10
   obtain ⟨j, hj⟩ := Ej (U.cZ l [10]) 13
   show ∃ k, U.cZ (U.cZ l [10]) [13] = _
   rw [hj, hk, List.take_take]; exact ⟨_, rfl⟩
 obtain ⟨k, hk⟩ := key
 rw [hk, List.length_take]
 by_cases h : k <= l.length
 ·rw [Nat.min_eq_left h]
 ·rw [Nat.min_eq_right (by omega), List.take_length, List.take_of_length_le (by omega)]
theorem Nv : ∀ (l : List Int) (c : Int), 0 <= aF l c -> l.getD (aF l c).toNat 0 = c
 | [], c, h => by simp [aF] at h
 | x :: l, c, h => by
   rw [EU] at h ⊢
   by_cases hx : x = c
   ·rw [if_pos hx]; exact hx
   ·rw [if_neg hx] at h ⊢
    have hb := dJ l c
    by_cases hn : aF l c = -1
    ·rw [if_pos hn] at h; omega
    ·rw [if_neg hn] at h ⊢
     have ih := Nv l c (by omega)
     rw [show (aF l c + 1).toNat = (aF l c).toNat + 1 by omega]
     exact ih
theorem getD_take {α : Type} {l : List α} {k n : Nat} {d : α} (h : k < n) : (l.take n).getD k d = l.getD k d := by
 simp [List.getD_eq_getElem?_getD, List.getElem?_take, h]
theorem getD_drop {α : Type} {l : List α} {k n : Nat} {d : α} : (l.drop n).getD k d = l.getD (n + k) d := by
 simp [List.getD_eq_getElem?_getD, List.getElem?_drop]
theorem EZ (b : List Int) : ∀ (n : Nat) (s : U.HS), 0 <= s.2.2 -> s.2.2 <= b.length -> b.length - s.2.2.toNat <= n -> U.sides b 0 s.1 -> U.gZ 0 s.1 = s.2.2 -> ∀ R, R = U.cu s (U.ah 10 (b.drop s.2.2.toNat)) ->
 U.sides b 0 R.1.1 /\ U.gZ 0 R.1.1 = R.1.2.2
 | 0, s, h0, h1, hn, hs, he, R, hR => by
   rw [CZ s (by omega)] at hR
   subst hR
   exact ⟨hs, he⟩
 | n + 1, (fs, v, en), h0, h1, hn, hsd, he, R, hR => by
   dsimp only at h0 h1 hn hR hsd he
   by_cases hi : en < b.length
   ·obtain ⟨q1, q2, r, hr, hrr⟩ := BL h0 hi
    have hll : (List.take ((U.endOf b en).toNat.sub en.toNat) (List.drop en.toNat b)).length = (U.endOf b en).toNat - en.toNat := by rw [List.length_take, List.length_drop, dR]; omega
    rw [hr] at hR
    obtain ⟨l, hl⟩ : ∃ l, l = List.take ((U.endOf b en).toNat.sub en.toNat) (List.drop en.toNat b) := ⟨_, rfl⟩
    rw [<- hl] at hR hll
    have hq : U.endOf b en = en + l.length := by omega
    have hne : ¬ l = [] := by intro h; rw [h] at hll; simp at hll; omega
    by_cases hs : U.says l = []
    ·rw [Iz _ _ hne hs] at hR
     subst hR
     exact ⟨hsd, he⟩
    ·cases hm : U.more (fs, v, en) l with
     | true =>
       rw [IB fs v en _ hne hs hm, hrr, hq] at hR
       have hfs : fs ≠ [] := by
        unfold U.more at hm
        simp only [Bool.and_eq_true, decide_eq_true_eq] at hm
        exact hm.2
       have hN := G9 b fs 0 (en + l.length) (U.trimB (v ++ U.says l)) hfs hsd (by omega) (by omega)
       exact EZ b n (_, _, en + l.length) (by show 0 <= en + (l.length : Int); omega) (by show en + (l.length : Int) <= _; omega) (by show b.length - (en + (l.length : Int)).toNat <= n; omega) hN.1 hN.2 R hR
     | false =>
       cases hbg : U.begins (U.says l) with
       | true =>
         rw [EX fs v en _ hne hs hm hbg, hrr, hq, OG] at hR
         obtain ⟨_, c2, c3, c4, _⟩ := RD hbg
         have hsl := MP l
         have hpre : U.says l = (b.drop en.toNat).take (U.says l).length := by
          have h := SX l
          rw [hl, List.take_take, <- hl] at h
          rwa [Nat.min_eq_left (by rw [dR]; omega)] at h
         have hA : (U.aB (U.says l) 58).length = (aF (U.says l) 58).toNat := by rw [c4, List.length_take]; omega
         have hN : U.sides b 0 (fs ++ [(U.aB (U.says l) 58, U.trimB (U.bH (U.says l) 58), en, en + l.length)]) /\ U.gZ 0 (fs ++ [(U.aB (U.says l) 58, U.trimB (U.bH (U.says l) 58), en, en + l.length)]) = en + l.length := by
          rw [wB, EY, he]
          refine ⟨⟨hsd, rfl, ?_, ?_, ?_, ?_, ?_, trivial⟩, rfl⟩
          ·intro h
           have h := congrArg List.length (show U.aB (U.says l) 58 = [] from h)
           rw [hA] at h; simp at h; omega
          ·show en + ((U.aB (U.says l) 58).length : Int) < en + l.length; omega
          ·show en + (l.length : Int) <= _; omega
          ·show (b.drop en.toNat).take (U.aB (U.says l) 58).length = U.aB (U.says l) 58
           rw [hA, c4]
           generalize hI : (aF (U.says l) 58).toNat = I
           rw [hpre, List.take_take, Nat.min_eq_left (by omega)]
          ·show b.getD (en + ((U.aB (U.says l) 58).length : Int)).toNat 0 = 58
           have h := Nv (U.says l) 58 (by omega)
           rw [hpre, getD_take (by rw [<- hpre]; omega), <- hpre, getD_drop] at h
           rw [hA, show (en + (((aF (U.says l) 58).toNat : Nat) : Int)).toNat = en.toNat + (aF (U.says l) 58).toNat by omega]; exact h
         exact EZ b n (_, _, en + l.length) (by show 0 <= en + (l.length : Int); omega) (by show en + (l.length : Int) <= _; omega) (by show b.length - (en + (l.length : Int)).toNat <= n; omega) hN.1 hN.2 R hR
       | false =>
         rw [IC fs v en _ hne hs hm hbg] at hR
         subst hR
         exact ⟨hsd, he⟩
   ·rw [CZ _ (by omega)] at hR
    subst hR
    exact ⟨hsd, he⟩
theorem C9 (b : List Int) : ∀ (fs : List Field) (p : Int), U.sides b p fs -> p <= U.gZ p fs /\ (p <= b.length -> U.gZ p fs <= b.length)
 | [], p, _ => ⟨Int.le_refl p, id⟩
 | f :: r, p, ⟨h1, h2, h3, h4, h5, h6, h7⟩ => by
   have ih := C9 b r f.2.2.2 h7
   exact ⟨by show p <= U.gZ f.2.2.2 r; omega, fun _ => ih.2 h4⟩
theorem xu (b : List Int) : U.sides b 0 (U.fieldsOf b) /\ 0 <= U.gZ 0 (U.fieldsOf b) /\ U.gZ 0 (U.fieldsOf b) <= U.textOf b /\ U.textOf b <= b.length := by
 have h := EZ b b.length ([], [], 0) (Int.le_refl 0) (by show (0 : Int) <= _; omega) (Nat.sub_le _ _) trivial rfl (U.hread b) rfl
 have ht := O1 b
 have hsp : (U.hread b).1.1 = U.fieldsOf b ++ (U.hread b).1.1.drop 40 := (List.take_append_drop 40 _).symm
 rw [hsp, wB, EY] at h
 have h1 := C9 b _ _ h.1.1
 have h2 := C9 b _ _ h.1.2
 exact ⟨h.1.1, h1.1, by omega, ht.2⟩
theorem Uj {b : List Int} {l : List Field} {i : Nat} (hi : i < l.length) (hs : U.sides b 0 l) : 0 <= l[i].2.2.1 /\ l[i].2.2.1 <= l[i].2.2.2 /\ l[i].2.2.2 <= b.length /\ (b.drop l[i].2.2.1.toNat).take l[i].1.length = l[i].1 := by
 have hsp : l = l.take i ++ l[i] :: l.drop (i + 1) := by rw [<- List.drop_eq_getElem_cons hi, List.take_append_drop]
 rw [hsp, wB] at hs
 have h1 := C9 b _ _ hs.1
 obtain ⟨h2, h3, h4, h5, h6, h7, h8⟩ := hs.2
 exact ⟨by omega, by omega, h5, by rw [h2]; exact h6⟩
theorem Uk {b : List Int} {names : List (List Int)} {no : Bool} {l : List Field} {i : Int} (h0 : 0 <= i) (hi : i < l.length) : U.oZ b names no (l.drop i.toNat) = cond (U.picks names no l[i.toNat]) (U.jK b l[i.toNat]) [] ++ U.oZ b names no (l.drop (i + 1).toNat) := by
 rw [drop_at h0 hi]; rfl
theorem SY {b : List Int} {f : Field} (h0 : 0 <= f.2.2.1) (h1 : f.2.2.1 <= f.2.2.2) (h2 : f.2.2.2 <= b.length) : ((U.jK b f).length : Int) = f.2.2.2 - f.2.2.1 := by
 unfold U.jK; rw [List.length_take, List.length_drop]; omega
theorem Nw (b : List Int) (names : List (List Int)) (no : Bool) : ∀ (fs : List Field) (p : Int), 0 <= p -> U.sides b p fs ->
 ((U.oZ b names no fs).length : Int) + (U.oZ b names (!no) fs).length = U.gZ p fs - p
 | [], p, _, _ => by show (0 : Int) + 0 = p - p; omega
 | f :: r, p, h0, ⟨h1, h2, h3, h4, h5, h6, h7⟩ => by
   have ih := Nw b names no r f.2.2.2 (by omega) h7
   have hp := SY (b := b) (f := f) (by omega) (by omega) h4
   have hA : ∀ no, U.oZ b names no (f :: r) = cond (U.picks names no f) (U.jK b f) [] ++ U.oZ b names no r := fun _ => rfl
   have hq : U.picks names (!no) f = !(U.picks names no f) := by unfold U.picks; cases names.any (U.bU f.1) <;> cases no <;> rfl
   rw [hA, hA, hq]
   show _ = U.gZ f.2.2.2 r - p
   cases U.picks names no f
   ·show (((([] : List Int) ++ _).length : Nat) : Int) + (((U.jK b f ++ _).length : Nat) : Int) = _
    rw [List.nil_append, List.length_append]; push_cast; omega
   ·show (((U.jK b f ++ _).length : Nat) : Int) + (((([] : List Int) ++ _).length : Nat) : Int) = _
    rw [List.nil_append, List.length_append]; push_cast; omega
theorem Ul (b : List Int) (names : List (List Int)) (no : Bool) : (U.oZ b names no (U.fieldsOf b)).length <= b.length := by
 have h := xu b
 have h1 := Nw b names no _ 0 (Int.le_refl 0) h.1
 omega
theorem OH (b : List Int) (names : List (List Int)) (no : Bool) (hl : b.length <= maxLen) (hn : names.length <= maxLen) (h : b.length <= 4000) : xq b names no := by
 unfold xq
 rw [maxLen_eq] at hn
 have hsd := (xu b).1
 have hbd := Ul b names no
 have hfl : (U.fieldsOf b).length <= 40 := List.length_take_le _ _
 refine ⟨by omega, ([], 0), ⟨rfl, ⟨Int.le_refl 0, by show (0 : Int) <= _; omega⟩, rfl⟩, ?_⟩
 rintro ⟨o, i⟩ ⟨⟨i0, i1⟩, hI⟩
 dsimp only at i0 i1 hI ⊢
 rw [cond_prop]
 refine ⟨fun hi => ?_, fun hi => ?_⟩
 ·have hi : i < (U.fieldsOf b).length := of_decide_eq_true hi
  rw [Uk i0 hi] at hI
  rw [getD_at (by omega : i.toNat < (U.fieldsOf b).length)]
  obtain ⟨s1, s2, s3, _⟩ := Uj (by omega : i.toNat < (U.fieldsOf b).length) hsd
  generalize (U.fieldsOf b)[i.toNat] = fd at hI s1 s2 s3 ⊢
  have hol : o.length + (cond (U.picks names no fd) (U.jK b fd) []).length <= b.length := by
   have h := congrArg List.length hI
   rw [List.length_append, List.length_append] at h; omega
  have hcut : List.take (fd.2.2.2.toNat.sub fd.2.2.1.toNat) (List.drop fd.2.2.1.toNat b) = U.jK b fd := rfl
  refine ⟨i0, hi, (o, fd, 0), ⟨rfl, rfl, rfl, ⟨Int.le_refl 0, by show (0 : Int) <= _; omega⟩, rfl⟩, ?_⟩
  rintro ⟨o', fd', j⟩ ⟨he1, he2, ⟨j0, j1⟩, hJ⟩
  dsimp only at he1 he2 j0 j1 hJ ⊢
  have he1 := he1.symm; have he2 := he2.symm
  subst he1 he2
  rw [hcut]
  have hend : ∀ (a : Bool), names.any (U.bU fd.1) = a -> bif !decide (a = no) then 0 <= fd.2.2.1 /\ fd.2.2.1 <= fd.2.2.2 /\ fd.2.2.2 <= (b.length : Int) /\ (o.length.add (U.jK b fd).length).mul 1 <= 140737488355328 /\ o.length.add (U.jK b fd).length <= maxLen /\ ∃ (y : List Int × Int), U.bn b names no (o.append (U.jK b fd)) (IntKind.i64.wrap (i.add 1)) = U.bn b names no y.1 y.2 /\ U.dX b names no y.1 y.2 /\ (U.fieldsOf b).length.sub y.2.toNat < (U.fieldsOf b).length.sub i.toNat
   else ∃ (y : List Int × Int), U.bn b names no o (IntKind.i64.wrap (i.add 1)) = U.bn b names no y.1 y.2 /\ U.dX b names no y.1 y.2 /\ (U.fieldsOf b).length.sub y.2.toNat < (U.fieldsOf b).length.sub i.toNat := by
   intro a ha
   have hp : U.picks names no fd = !decide (a = no) := by unfold U.picks; rw [ha]
   rw [hp] at hI hol
   rw [iL (by omega) (by omega)]
   cases hc : !decide (a = no) with
   | true =>
     rw [hc] at hI hol
     have hol : o.length + (U.jK b fd).length <= b.length := hol
     refine ⟨s1, s2, s3, by simp only [jc, xY]; omega, by simp only [jc, maxLen_eq]; omega, ⟨(o ++ U.jK b fd, i + 1), rfl, ⟨⟨by show 0 <= i + 1; omega, by show i + 1 <= _; omega⟩, ?_⟩, by simp only [dR]; omega⟩⟩
     rw [List.append_assoc]; exact hI
   | false =>
     rw [hc] at hI
     exact ⟨(o, i + 1), rfl, ⟨⟨by show 0 <= i + 1; omega, by show i + 1 <= _; omega⟩, hI⟩, by simp only [dR]; omega⟩
  rw [cond_prop]
  refine ⟨fun hj => ?_, fun hj => ?_⟩
  ·have hj : j < names.length := of_decide_eq_true hj
   rw [Ru j0 hj] at hJ
   rw [getD_at (by omega : j.toNat < names.length)]
   refine ⟨j0, hj, ?_⟩
   cases hs : U.bU fd.1 names[j.toNat] with
   | true =>
     rw [hs, Bool.true_or] at hJ
     have := hend true hJ.symm
     rw [decide_eq_true (by omega : j >= 0)]
     exact this
   | false =>
     rw [hs, Bool.false_or] at hJ
     exact ⟨(o, fd, j + 1), by rw [iL (by omega) (by omega)], ⟨rfl, rfl, ⟨by show 0 <= j + 1; omega, by show j + 1 <= _; omega⟩, hJ⟩, by simp only [dR]; omega⟩
  ·have hj : ¬ j < names.length := of_decide_eq_false hj
   rw [drop_end (by omega)] at hJ
   exact hend false hJ.symm
 ·have hi : ¬ i < (U.fieldsOf b).length := of_decide_eq_false hi
  rw [drop_end (by omega)] at hI
  have hI : o ++ [] = _ := hI
  rw [List.append_nil] at hI
  have := congrArg List.length hI
  refine ⟨by simp only [jc, xY]; omega, by simp only [jc, maxLen_eq]; omega, ?_, trivial⟩
  rw [hI]; rfl
theorem JM : qK := by
 unfold qK
 refine ⟨by omega, by omega, fun _ => by omega, fun _ => by omega, ?_⟩
 rw [cond_prop]
 exact ⟨fun _ => ⟨by omega, by decide +kernel, trivial⟩, fun h => absurd h (by decide +kernel)⟩
theorem E5 (b : List Int) (hv : b.length <= maxLen) : lN b := by
 unfold lN
 rw [cond_prop]
 refine ⟨fun _ => ⟨rfl, trivial⟩, fun h => ?_⟩
 have h := of_decide_eq_false h
 have hsd := xu b
 have hfl : (U.fieldsOf b).length <= 40 := List.length_take_le _ _
 refine ⟨by omega, (0, 0), ⟨rfl, ⟨Int.le_refl 0, by show (0 : Int) <= _; omega⟩, Int.le_refl 0, by show (0 : Int) <= _; omega, hsd.1, rfl⟩, ?_⟩
 rintro ⟨q, i⟩ ⟨⟨i0, i1⟩, q0, q1, hS, hE⟩
 dsimp only at i0 i1 q0 q1 hS hE ⊢
 rw [cond_prop]
 refine ⟨fun hi => ?_, fun hi => ?_⟩
 ·have hi : i < (U.fieldsOf b).length := of_decide_eq_true hi
  rw [getD_at (by omega : i.toNat < (U.fieldsOf b).length)]
  rw [drop_at i0 hi] at hS hE
  generalize (U.fieldsOf b)[i.toNat] = fd at hS hE ⊢
  obtain ⟨h1, h2, h3, h4, h5, h6, h7⟩ := hS
  have hE : U.gZ fd.2.2.2 _ = _ := hE
  have hfp : 0 < fd.1.length := List.length_pos_iff.2 h2
  have hw : IntKind.i64.wrap (q.add (fd.1.length : Int)) = q + fd.1.length := iL (by omega) (by omega)
  have hsame : U.bU (List.take ((q + (fd.1.length : Int)).toNat.sub q.toNat) (List.drop q.toNat b)) fd.1 = true := by
   rw [show (q + (fd.1.length : Int)).toNat.sub q.toNat = fd.1.length by rw [dR]; omega, h5]
   unfold U.bU; exact decide_eq_true rfl
  have e1 : (fd.2.2.1 != q) = false := by rw [h1]; exact bne_self_eq_false q
  have e2 : decide (fd.2.2.2 <= q) = false := decide_eq_false (by omega)
  have e3 : decide (fd.2.2.2 > (b.length : Int)) = false := decide_eq_false (by omega)
  have e4 : decide ((fd.1.length : Int) = 0) = false := decide_eq_false (by omega)
  have e5 : decide (q + (fd.1.length : Int) >= (b.length : Int)) = false := decide_eq_false (by omega)
  have e6 : (b.getD (q + (fd.1.length : Int)).toNat 0 != 58) = false := by rw [h6]; rfl
  rw [hw]
  simp only [e1, e2, e3, e4, e5, e6, hsame, cond_false, Bool.not_true]
  refine ⟨i0, hi, fun _ => i0, fun _ => hi, fun _ => i0, fun _ => hi, fun _ => i0, fun _ => hi, fun _ => i0, fun _ => hi, fun _ => i0, fun _ => hi, fun _ => q0, fun _ => by omega, fun _ => by omega, fun _ => i0, fun _ => hi, fun _ => i0, fun _ => hi, fun _ => by omega, fun _ => by omega, i0, hi, (fd.2.2.2, i + 1), ?_, ⟨⟨by show 0 <= i + 1; omega, by show i + 1 <= _; omega⟩, by show 0 <= fd.2.2.2; omega, h4, h7, hE⟩, by simp only [dR]; omega⟩
  rw [iL (by omega) (by omega)]
 ·have hi : ¬ i < (U.fieldsOf b).length := of_decide_eq_false hi
  rw [drop_end (by omega)] at hE
  have hE : q = U.gZ 0 (U.fieldsOf b) := hE
  refine ⟨by omega, ?_, trivial⟩
  rw [decide_eq_true (by omega : U.textOf b >= q), decide_eq_true (by omega : U.textOf b <= (b.length : Int))]; rfl
end Go.Proofs.YtggccomebfpfpaaDoor
set_option linter.unusedSimpArgs false
set_option maxRecDepth 100000
set_option linter.unusedVariables false
namespace Go.Proofs.YtggccomebfpfpaaDoor
open Go.Vc
theorem QG (x : aK [aA, J8, .bool]) : dB Tryd.prog (bJ pF) (G8 x.1 x.2.1 x.2.2) 19 (dh [aA, J8, .bool] x) [] (rV x.1 x.2.1 x.2.2) = xq x.1 x.2.1 x.2.2 := by kernel_rfl
theorem QH : Pok 19 [aA, J8, .bool] (fun x => rV x.1 x.2.1 x.2.2) := by
 refine pk (L := fun x => G8 x.1 x.2.1 x.2.2) (l := pF) BP (fun _ => rfl) ?_
 intro x hv hp
 rw [QG]
 exact OH x.1 x.2.1 x.2.2 hv.1.2 hv.2.1.2 (hp (List.length x.1 <= 4000) (by simp [rV]))
theorem QI : bZ Tryd.prog gl 19 G7 := QH
theorem Em : bK rW := .cons QI BP
theorem Ny (x : aK []) : dB Tryd.prog (bJ rW) (BU ) 7 (dh [] x) [] (vk ) = qK  := by kernel_rfl
theorem Nz : Pok 7 [] (fun x => vk ) := by
 refine pk (L := fun x => BU ) (l := rW) Em (fun _ => rfl) ?_
 intro x hv hp
 rw [Ny]
 exact JM
theorem NC : bZ Tryd.prog gl 7 BR := Nz
theorem JO : bK vC := .cons NC Em
end Go.Proofs.YtggccomebfpfpaaDoor
