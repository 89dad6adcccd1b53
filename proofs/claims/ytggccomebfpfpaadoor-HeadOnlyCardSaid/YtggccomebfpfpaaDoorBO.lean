/- What functions of this seat compute, in plain Lean. -/
import Derived.Test.YtggccomebfpfpaaDoorBB
import Derived.Test.YtggccomebfpfpaaDoorBC
set_option linter.unusedVariables false
set_option linter.unusedSimpArgs false
set_option maxRecDepth 100000
namespace Go.Proofs.YtggccomebfpfpaaDoor
open Go.Vc
namespace U
def sides (b : List Int) : Int -> List Field -> Prop
 | _, [] => True
 | p, f :: r => f.2.2.1 = p /\ f.1 ≠ [] /\ p + f.1.length < f.2.2.2 /\ f.2.2.2 <= b.length /\ (b.drop p.toNat).take f.1.length = f.1 /\ b.getD (p + f.1.length).toNat 0 = 58 /\ sides b f.2.2.2 r
def gQ : Int -> List Field -> Int
 | p, [] => p
 | _, f :: r => gQ f.2.2.2 r
end U
namespace U
def bH (b : List Int) (names : List (List Int)) (no : Bool) (o : List Int) (i : Int) : St2 := ⟨⟨[sL false (.int .u8) b] ++ [sL false .str names] ++ [sB no] ++ U.n 4 ++ [own 0] ++ U.n 3 ++ [sL true kR (fieldsOf b)] ++ [sI (fieldsOf b).length] ++ [sI i] ++ U.n 19, [], [(0, .row 5 (.int .u8) true true o)]⟩, 1, []⟩
def eF (b : List Int) (names : List (List Int)) (no : Bool)  (o : List Int) (i : Int) : Prop := at_ (fieldsOf b) i /\ o ++ lD b names no ((fieldsOf b).drop i.toNat) = lD b names no (fieldsOf b)
def kU (names : List (List Int)) (o : List Int) (fd : Field) (j : Int) : St2 := ⟨⟨[sL false .str names] ++ [sF 32 [1]] ++ U.n 5 ++ [sI names.length] ++ [sI j] ++ U.n 10, [], [(0, .row 5 (.int .u8) true true o), (1, .obj [.str fd.1, .str fd.2.1, .int .i64 fd.2.2.1, .int .i64 fd.2.2.2])]⟩, 2, []⟩
def qR (names : List (List Int)) (o' : List Int) (fd' : Field) (j' : Int) (o : List Int) (fd : Field) (j : Int) : Prop :=  o = o' /\ fd = fd' /\ at_ names j /\ (names.drop j.toNat).any (dn fd.1) = names.any (dn fd.1)
def fG (b : List Int) (names : List (List Int)) (no : Bool) (o : List Int) (i : Int) : St2 := ⟨⟨[sL false (.int .u8) b] ++ [sL false .str names] ++ [sB no] ++ U.n 4 ++ [own 0] ++ [sL true kR (fieldsOf b)] ++ [sI i] ++ U.n 49, [], [(0, .row 5 (.int .u8) true true o)]⟩, 1, []⟩
def jS (b : List Int) (names : List (List Int)) (no : Bool)  (o : List Int) (i : Int) : Prop := at_ (fieldsOf b) i /\ o ++ lD b names no ((fieldsOf b).drop i.toNat) = lD b names no (fieldsOf b)
def jv (b : List Int) (names : List (List Int)) (no : Bool) (o : List Int) (i : Int) (z : Bool) (k : Int) : St2 := ⟨⟨[sL false (.int .u8) b] ++ [sL false .str names] ++ [sB no] ++ U.n 4 ++ [own 0] ++ [sL true kR (fieldsOf b)] ++ [sI i] ++ [sB z] ++ [sI k] ++ U.n 47, [], [(0, .row 5 (.int .u8) true true o)]⟩, 1, []⟩
def mP (b : List Int) (names : List (List Int)) (no : Bool) (o' : List Int) (i' : Int) (z' : Bool) (k' : Int) (o : List Int) (i : Int) (z : Bool) (k : Int) : Prop :=  o = o' /\ i = i' /\ at_ names k /\ (z || (names.drop k.toNat).any (dn ((fieldsOf b).getD i.toNat f0).1)) = names.any (dn ((fieldsOf b).getD i.toNat f0).1)
def fV (b : List Int) (names : List (List Int)) (no : Bool) (i : Int) : St2 := ⟨⟨[sL false (.int .u8) b] ++ [sL false .str names] ++ [sB no] ++ U.n 4 ++ [sI i] ++ U.n 97, [], []⟩, 0, []⟩
def jk (b : List Int) (names : List (List Int)) (no : Bool)  (i : Int) : Prop := at_ names i
def fB (b : List Int) (names : List (List Int)) (no : Bool) (n : Int) (i : Int) : St2 := ⟨⟨[sL false (.int .u8) b] ++ [sL false .str names] ++ [sB no] ++ U.n 5 ++ [sL true (.int .u8) (lF b names no)] ++ [sL true (.int .u8) (lF b names !no)] ++ [sL true kR (fieldsOf b)] ++ [sI n] ++ [sI i] ++ U.n 92, [], []⟩, 0, []⟩
def iZ (b : List Int) (names : List (List Int)) (no : Bool)  (n : Int) (i : Int) : Prop := at_ (fieldsOf b) i /\ 4 <= n /\ n <= b.length + 4 /\ sides b (n - 4) ((fieldsOf b).drop i.toNat) /\ gQ (n - 4) ((fieldsOf b).drop i.toNat) = gQ 0 (fieldsOf b)
end U
def MX (b : List Int) (names : List (List Int)) (no : Bool) : Vc.Loop := ⟨{ keep := [0, 1, 2, 7, 11, 12, 13], wake := [(7, 5)] }, List Int × Int, fun x => U.bH b names no x.1 x.2, fun x0 x => U.eF b names no  x.1 x.2, fun x => (U.fieldsOf b).length - x.2.toNat, fun p => ∀ x, p x, fun _ h => h⟩
def Qj (names : List (List Int)) : Vc.Loop := ⟨{ keep := [0, 1, 7, 8] }, List Int × Field × Int, fun x => U.kU names x.1 x.2.1 x.2.2, fun x0 x => U.qR names x0.1 x0.2.1 x0.2.2 x.1 x.2.1 x.2.2, fun x => names.length - x.2.2.toNat, fun p => ∀ x, p x, fun _ h => h⟩
def KL (b : List Int) (names : List (List Int)) (no : Bool) : Vc.Loop := ⟨{ keep := [0, 1, 2, 7, 8, 9], wake := [(7, 5)] }, List Int × Int, fun x => U.fG b names no x.1 x.2, fun x0 x => U.jS b names no  x.1 x.2, fun x => (U.fieldsOf b).length - x.2.toNat, fun p => ∀ x, p x, fun _ h => h⟩
def KN (b : List Int) (names : List (List Int)) (no : Bool) : Vc.Loop := ⟨{ keep := [0, 1, 2, 7, 8, 9, 10, 11], wake := [(7, 5)] }, List Int × Int × Bool × Int, fun x => U.jv b names no x.1 x.2.1 x.2.2.1 x.2.2.2, fun x0 x => U.mP b names no x0.1 x0.2.1 x0.2.2.1 x0.2.2.2 x.1 x.2.1 x.2.2.1 x.2.2.2, fun x => names.length - x.2.2.2.toNat, fun p => ∀ x, p x, fun _ h => h⟩
def Em (b : List Int) (names : List (List Int)) (no : Bool) : Vc.Loop := ⟨{ keep := [0, 1, 2, 7] }, Int, fun x => U.fV b names no x, fun x0 x => U.jk b names no  x, fun x => names.length - x.toNat, fun p => ∀ x, p x, fun _ h => h⟩
def BO (b : List Int) (names : List (List Int)) (no : Bool) : Vc.Loop := ⟨{ keep := [0, 1, 2, 8, 9, 10, 11, 12] }, Int × Int, fun x => U.fB b names no x.1 x.2, fun x0 x => U.iZ b names no  x.1 x.2, fun x => (U.fieldsOf b).length - x.2.toNat, fun p => ∀ x, p x, fun _ h => h⟩
def uN (b : List Int) (names : List (List Int)) (no : Bool) : Done := ⟨[b.length <= 4000], .one (.psl true (.int .u8) (U.lF b names no)), [], []⟩
def JH : Vc.Sum := .pure [au, iW, .bool] false fun x => uN x.1 x.2.1 x.2.2
def JI (b : List Int) (names : List (List Int)) (no : Bool) : Nat -> List V -> Nat -> Option Vc.Loop := fun f v k => cond (Nat.beq f 19 && Nat.beq k 3) (some (MX b names no)) <| cond (Nat.beq f 41 && Nat.beq k 2) (some (Qj names)) <| none
def uO : List (Nat × Ent) := (19, .sum JH) :: qP
def qU (b : List Int) (names : List (List Int)) (no : Bool) : Done := ⟨[b.length <= 4000], .one (.psl true (.int .u8) (U.lF b names no)), [], []⟩
def GI : Vc.Sum := .pure [au, iW, .bool] false fun x => qU x.1 x.2.1 x.2.2
def GK (b : List Int) (names : List (List Int)) (no : Bool) : Nat -> List V -> Nat -> Option Vc.Loop := fun f v k => cond (Nat.beq f 21 && Nat.beq k 4) (some (KL b names no)) <| cond (Nat.beq f 21 && Nat.beq k 8) (some (KN b names no)) <| none
def qV : List (Nat × Ent) := (21, .sum GI) :: uO
def xA  : Done := ⟨[], .one (.bool true), [], []⟩
def En : Vc.Sum := .pure [] false fun _ => xA
def Eo  : Nat -> List V -> Nat -> Option Vc.Loop := dN
def xB : List (Nat × Ent) := (7, .sum En) :: qV
def yj (b : List Int) (names : List (List Int)) (no : Bool) : Nat -> List V -> Nat -> Option Vc.Loop := fun f v k => cond (Nat.beq f 4 && Nat.beq k 6) (some (Em b names no)) <| cond (Nat.beq f 4 && Nat.beq k 17) (some (BO b names no)) <| none
end Go.Proofs.YtggccomebfpfpaaDoor
set_option maxRecDepth 100000
set_option linter.unusedVariables false
namespace Go.Proofs.YtggccomebfpfpaaDoor
open Go.Vc
def yZ (b : List Int) (names : List (List Int)) (no : Bool) : Prop := b.length <= (1000000000 : Nat) /\ ∃ (x0 : List Int × Int), (U.bH b names no [] (0 : Int) = U.bH b names no x0.1 x0.2 /\ U.eF b names no x0.1 x0.2) /\ ∀ (x : List Int × Int), U.eF b names no x.1 x.2 -> bif decide (x.2 < (↑(U.fieldsOf b).length : Int)) then (0 : Int) <= x.2 /\ x.2 <
 (↑(U.fieldsOf b).length : Int) /\ ∃ (x0 : List Int × (List Int × List Int × Int × Int) × Int), (U.kU names x.1 ((U.fieldsOf b).getD x.2.toNat ([], [], (0 : Int), (0 : Int))) (0 : Int) = U.kU names x0.1 x0.2.1 x0.2.2 /\ U.qR names x0.1 x0.2.1 x0.2.2 x0.1 x0.2.1 x0.2.2) /\ ∀ (x_1 : List Int × (List Int × List Int × Int × Int) × Int), U.qR names x0.1 x0.2.1 x0.2.2
 x_1.1 x_1.2.1 x_1.2.2 -> bif decide (x_1.2.2 < (↑names.length : Int)) then (0 : Int) <= x_1.2.2 /\ x_1.2.2 < (↑names.length : Int) /\ bif U.dn x_1.2.1.1 (names.getD x_1.2.2.toNat []) then bif !decide (decide (x_1.2.2 >= (0 : Int)) = no) then (0 : Int) <= x_1.2.1.2.2.1 /\ x_1.2.1.2.2.1 <= x_1.2.1.2.2.2 /\ x_1.2.1.2.2.2 <= (↑b.length : Int) /\ (x_1.1.length.add (List.take (x_1.2.1.2.2.2.toNat.sub
 x_1.2.1.2.2.1.toNat) (List.drop x_1.2.1.2.2.1.toNat b)).length).mul (1 : Nat) <= (140737488355328 : Nat) /\ x_1.1.length.add (List.take (x_1.2.1.2.2.2.toNat.sub x_1.2.1.2.2.1.toNat) (List.drop x_1.2.1.2.2.1.toNat b)).length <= maxLen /\ ∃ (y : List Int × Int), U.bH b names no (x_1.1.append (List.take (x_1.2.1.2.2.2.toNat.sub x_1.2.1.2.2.1.toNat) (List.drop x_1.2.1.2.2.1.toNat b)))
 (IntKind.i64.wrap (x.2.add (1 : Int))) = U.bH b names no y.1 y.2 /\ U.eF b names no y.1 y.2 /\ (U.fieldsOf b).length.sub y.2.toNat < (U.fieldsOf b).length.sub x.2.toNat else ∃ (y : List Int × Int), U.bH b names no x_1.1 (IntKind.i64.wrap (x.2.add (1 : Int))) = U.bH b names no y.1 y.2 /\ U.eF b names no y.1 y.2 /\ (U.fieldsOf b).length.sub y.2.toNat <
 (U.fieldsOf b).length.sub x.2.toNat else ∃ (y : List Int × (List Int × List Int × Int × Int) × Int), U.kU names x_1.1 x_1.2.1 (IntKind.i64.wrap (x_1.2.2.add (1 : Int))) = U.kU names y.1 y.2.1 y.2.2 /\ U.qR names x0.1 x0.2.1 x0.2.2 y.1 y.2.1 y.2.2 /\ names.length.sub y.2.2.toNat < names.length.sub x_1.2.2.toNat else bif !decide (decide ((-1 : Int) >= (0 : Int)) = no) then
 (0 : Int) <= x_1.2.1.2.2.1 /\ x_1.2.1.2.2.1 <= x_1.2.1.2.2.2 /\ x_1.2.1.2.2.2 <= (↑b.length : Int) /\ (x_1.1.length.add (List.take (x_1.2.1.2.2.2.toNat.sub x_1.2.1.2.2.1.toNat) (List.drop x_1.2.1.2.2.1.toNat b)).length).mul (1 : Nat) <= (140737488355328 : Nat) /\ x_1.1.length.add (List.take (x_1.2.1.2.2.2.toNat.sub x_1.2.1.2.2.1.toNat) (List.drop x_1.2.1.2.2.1.toNat b)).length <= maxLen /\ ∃ (y : List Int ×
 Int), U.bH b names no (x_1.1.append (List.take (x_1.2.1.2.2.2.toNat.sub x_1.2.1.2.2.1.toNat) (List.drop x_1.2.1.2.2.1.toNat b))) (IntKind.i64.wrap (x.2.add (1 : Int))) = U.bH b names no y.1 y.2 /\ U.eF b names no y.1 y.2 /\ (U.fieldsOf b).length.sub y.2.toNat < (U.fieldsOf b).length.sub x.2.toNat else ∃ (y : List Int × Int), U.bH b names no x_1.1
 (IntKind.i64.wrap (x.2.add (1 : Int))) = U.bH b names no y.1 y.2 /\ U.eF b names no y.1 y.2 /\ (U.fieldsOf b).length.sub y.2.toNat < (U.fieldsOf b).length.sub x.2.toNat else (x.1.length.add ((2 : Nat))).mul (1 : Nat) <= (140737488355328 : Nat) /\ x.1.length.add ((2 : Nat)) <= maxLen /\ x.1.append [(13 : Int), (10 : Int)] = U.lF b names no /\ True
def xC (b : List Int) (names : List (List Int)) (no : Bool) : Prop := b.length <= (1000000000 : Nat) /\ ∃ (x0 : List Int × Int), (U.fG b names no [] (0 : Int) = U.fG b names no x0.1 x0.2 /\ U.jS b names no x0.1 x0.2) /\ ∀ (x : List Int × Int), U.jS b names no x.1 x.2 -> bif decide (x.2 < (↑(U.fieldsOf b).length : Int)) then ∃ (x0 : List Int × Int ×
 Bool × Int), (U.jv b names no x.1 x.2 false (0 : Int) = U.jv b names no x0.1 x0.2.1 x0.2.2.1 x0.2.2.2 /\ U.mP b names no x0.1 x0.2.1 x0.2.2.1 x0.2.2.2 x0.1 x0.2.1 x0.2.2.1 x0.2.2.2) /\ ∀ (x_1 : List Int × Int × Bool × Int), U.mP b names no x0.1 x0.2.1 x0.2.2.1 x0.2.2.2 x_1.1 x_1.2.1 x_1.2.2.1 x_1.2.2.2 -> bif decide (x_1.2.2.2 < (↑names.length : Int)) then
 (x_1.2.2.1 = false -> (0 : Int) <= x_1.2.1) /\ (x_1.2.2.1 = false -> x_1.2.1 < (↑(U.fieldsOf b).length : Int)) /\ (x_1.2.2.1 = false -> (0 : Int) <= x_1.2.2.2) /\ (x_1.2.2.1 = false -> x_1.2.2.2 < (↑names.length : Int)) /\ ∃ (y : List Int × Int × Bool × Int), U.jv b names no x_1.1 x_1.2.1 (bif x_1.2.2.1 then true else U.dn ((U.fieldsOf b).getD x_1.2.1.toNat ([], [], (0 : Int), (0 : Int))).1
 (names.getD x_1.2.2.2.toNat [])) (IntKind.i64.wrap (x_1.2.2.2.add (1 : Int))) = U.jv b names no y.1 y.2.1 y.2.2.1 y.2.2.2 /\ U.mP b names no x0.1 x0.2.1 x0.2.2.1 x0.2.2.2 y.1 y.2.1 y.2.2.1 y.2.2.2 /\ names.length.sub y.2.2.2.toNat < names.length.sub x_1.2.2.2.toNat else bif !decide (x_1.2.2.1 = no) then (0 : Int) <= x_1.2.1 /\ x_1.2.1 < (↑(U.fieldsOf b).length : Int) /\ (0 : Int)
 <= x_1.2.1 /\ x_1.2.1 < (↑(U.fieldsOf b).length : Int) /\ (0 : Int) <= ((U.fieldsOf b).getD x_1.2.1.toNat ([], [], (0 : Int), (0 : Int))).2.2.1 /\ ((U.fieldsOf b).getD x_1.2.1.toNat ([], [], (0 : Int), (0 : Int))).2.2.1 <= ((U.fieldsOf b).getD x_1.2.1.toNat ([], [], (0 : Int), (0 : Int))).2.2.2 /\ ((U.fieldsOf b).getD x_1.2.1.toNat ([], [], (0 : Int), (0 : Int))).2.2.2 <= (↑b.length : Int) /\
 (x_1.1.length.add (List.take (((U.fieldsOf b).getD x_1.2.1.toNat ([], [], (0 : Int), (0 : Int))).2.2.2.toNat.sub ((U.fieldsOf b).getD x_1.2.1.toNat ([], [], (0 : Int), (0 : Int))).2.2.1.toNat) (List.drop ((U.fieldsOf b).getD x_1.2.1.toNat ([], [], (0 : Int), (0 : Int))).2.2.1.toNat b)).length).mul (1 : Nat) <= (140737488355328 : Nat) /\ x_1.1.length.add (List.take (((U.fieldsOf b).getD x_1.2.1.toNat
 ([], [], (0 : Int), (0 : Int))).2.2.2.toNat.sub ((U.fieldsOf b).getD x_1.2.1.toNat ([], [], (0 : Int), (0 : Int))).2.2.1.toNat) (List.drop ((U.fieldsOf b).getD x_1.2.1.toNat ([], [], (0 : Int), (0 : Int))).2.2.1.toNat b)).length <= maxLen /\ ∃ (y : List Int × Int), U.fG b names no (x_1.1.append (List.take (((U.fieldsOf b).getD x_1.2.1.toNat ([], [], (0 : Int), (0 : Int))).2.2.2.toNat.sub
 ((U.fieldsOf b).getD x_1.2.1.toNat ([], [], (0 : Int), (0 : Int))).2.2.1.toNat) (List.drop ((U.fieldsOf b).getD x_1.2.1.toNat ([], [], (0 : Int), (0 : Int))).2.2.1.toNat b))) (IntKind.i64.wrap (x_1.2.1.add (1 : Int))) = U.fG b names no y.1 y.2 /\ U.jS b names no y.1 y.2 /\ (U.fieldsOf b).length.sub y.2.toNat < (U.fieldsOf b).length.sub x.2.toNat else ∃ (y : List Int × Int),
 U.fG b names no x_1.1 (IntKind.i64.wrap (x_1.2.1.add (1 : Int))) = U.fG b names no y.1 y.2 /\ U.jS b names no y.1 y.2 /\ (U.fieldsOf b).length.sub y.2.toNat < (U.fieldsOf b).length.sub x.2.toNat else (x.1.length.add ((2 : Nat))).mul (1 : Nat) <= (140737488355328 : Nat) /\ x.1.length.add ((2 : Nat)) <= maxLen /\ x.1.append (([(0 : Int), (0 : Int)].set (0 : Nat) (13 :
 Int)).set (1 : Nat) (10 : Int)) = U.lF b names no /\ True
def sW : Prop := (0 : Nat) < (14 : Nat) /\ (14 : Nat) <= (1000000000 : Nat) /\ ((bif (U.lU (U.fieldsOf (((((((((((((([(0 : Int), (0 : Int), (0 : Int), (0 : Int), (0 : Int), (0 : Int), (0 : Int), (0 : Int), (0 : Int), (0 : Int), (0 : Int), (0 : Int), (0 : Int), (0 : Int)].set (0 : Nat) (65 : Int)).set (1 : Nat) (58 : Int)).set (2 : Nat) (32 : Int)).set (3 : Nat) (49 : Int)).set (4 : Nat)
 (13 : Int)).set (5 : Nat) (10 : Int)).set (6 : Nat) (32 : Int)).set (7 : Nat) (50 : Int)).set (8 : Nat) (10 : Int)).set (9 : Nat) (98 : Int)).set (10 : Nat) (58 : Int)).set (11 : Nat) (10 : Int)).set (12 : Nat) (10 : Int)).set (13 : Nat) (120 : Int))) [(97 : Int)]).1.beq [(49 : Int), (32 : Int), (50 : Int)] then (U.lU (U.fieldsOf (((((((((((((([(0 : Int), (0 : Int), (0 : Int), (0 : Int), (0 :
 Int), (0 : Int), (0 : Int), (0 : Int), (0 : Int), (0 : Int), (0 : Int), (0 : Int), (0 : Int), (0 : Int)].set (0 : Nat) (65 : Int)).set (1 : Nat) (58 : Int)).set (2 : Nat) (32 : Int)).set (3 : Nat) (49 : Int)).set (4 : Nat) (13 : Int)).set (5 : Nat) (10 : Int)).set (6 : Nat) (32 : Int)).set (7 : Nat) (50 : Int)).set (8 : Nat) (10 : Int)).set (9 : Nat) (98 : Int)).set (10 : Nat) (58 : Int)).set (11 :
 Nat) (10 : Int)).set (12 : Nat) (10 : Int)).set (13 : Nat) (120 : Int))) [(97 : Int)]).2 else false) = true -> (14 : Nat) <= (1000000000 : Nat)) /\ ((bif bif (U.lU (U.fieldsOf (((((((((((((([(0 : Int), (0 : Int), (0 : Int), (0 : Int), (0 : Int), (0 : Int), (0 : Int), (0 : Int), (0 : Int), (0 : Int), (0 : Int), (0 : Int), (0 : Int), (0 : Int)].set (0 : Nat) (65 : Int)).set (1 : Nat) (58 : Int)).set
 (2 : Nat) (32 : Int)).set (3 : Nat) (49 : Int)).set (4 : Nat) (13 : Int)).set (5 : Nat) (10 : Int)).set (6 : Nat) (32 : Int)).set (7 : Nat) (50 : Int)).set (8 : Nat) (10 : Int)).set (9 : Nat) (98 : Int)).set (10 : Nat) (58 : Int)).set (11 : Nat) (10 : Int)).set (12 : Nat) (10 : Int)).set (13 : Nat) (120 : Int))) [(97 : Int)]).1.beq [(49 : Int), (32 : Int), (50 : Int)] then (U.lU (U.fieldsOf
 (((((((((((((([(0 : Int), (0 : Int), (0 : Int), (0 : Int), (0 : Int), (0 : Int), (0 : Int), (0 : Int), (0 : Int), (0 : Int), (0 : Int), (0 : Int), (0 : Int), (0 : Int)].set (0 : Nat) (65 : Int)).set (1 : Nat) (58 : Int)).set (2 : Nat) (32 : Int)).set (3 : Nat) (49 : Int)).set (4 : Nat) (13 : Int)).set (5 : Nat) (10 : Int)).set (6 : Nat) (32 : Int)).set (7 : Nat) (50 : Int)).set (8 : Nat) (10 :
 Int)).set (9 : Nat) (98 : Int)).set (10 : Nat) (58 : Int)).set (11 : Nat) (10 : Int)).set (12 : Nat) (10 : Int)).set (13 : Nat) (120 : Int))) [(97 : Int)]).2 else false then decide ((↑((2 : Nat)) : Int) = (2 : Int)) else false) = true -> (14 : Nat) <= (1000000000 : Nat)) /\ bif bif bif bif (U.lU (U.fieldsOf (((((((((((((([(0 : Int), (0 : Int), (0 : Int), (0 : Int), (0 : Int), (0 : Int), (0 : Int),
 (0 : Int), (0 : Int), (0 : Int), (0 : Int), (0 : Int), (0 : Int), (0 : Int)].set (0 : Nat) (65 : Int)).set (1 : Nat) (58 : Int)).set (2 : Nat) (32 : Int)).set (3 : Nat) (49 : Int)).set (4 : Nat) (13 : Int)).set (5 : Nat) (10 : Int)).set (6 : Nat) (32 : Int)).set (7 : Nat) (50 : Int)).set (8 : Nat) (10 : Int)).set (9 : Nat) (98 : Int)).set (10 : Nat) (58 : Int)).set (11 : Nat) (10 : Int)).set (12 :
 Nat) (10 : Int)).set (13 : Nat) (120 : Int))) [(97 : Int)]).1.beq [(49 : Int), (32 : Int), (50 : Int)] then (U.lU (U.fieldsOf (((((((((((((([(0 : Int), (0 : Int), (0 : Int), (0 : Int), (0 : Int), (0 : Int), (0 : Int), (0 : Int), (0 : Int), (0 : Int), (0 : Int), (0 : Int), (0 : Int), (0 : Int)].set (0 : Nat) (65 : Int)).set (1 : Nat) (58 : Int)).set (2 : Nat) (32 : Int)).set (3 : Nat) (49 :
 Int)).set (4 : Nat) (13 : Int)).set (5 : Nat) (10 : Int)).set (6 : Nat) (32 : Int)).set (7 : Nat) (50 : Int)).set (8 : Nat) (10 : Int)).set (9 : Nat) (98 : Int)).set (10 : Nat) (58 : Int)).set (11 : Nat) (10 : Int)).set (12 : Nat) (10 : Int)).set (13 : Nat) (120 : Int))) [(97 : Int)]).2 else false then decide ((↑((2 : Nat)) : Int) = (2 : Int)) else false then decide (U.textOf (((((((((((((([(0 :
 Int), (0 : Int), (0 : Int), (0 : Int), (0 : Int), (0 : Int), (0 : Int), (0 : Int), (0 : Int), (0 : Int), (0 : Int), (0 : Int), (0 : Int), (0 : Int)].set (0 : Nat) (65 : Int)).set (1 : Nat) (58 : Int)).set (2 : Nat) (32 : Int)).set (3 : Nat) (49 : Int)).set (4 : Nat) (13 : Int)).set (5 : Nat) (10 : Int)).set (6 : Nat) (32 : Int)).set (7 : Nat) (50 : Int)).set (8 : Nat) (10 : Int)).set (9 : Nat) (98
 : Int)).set (10 : Nat) (58 : Int)).set (11 : Nat) (10 : Int)).set (12 : Nat) (10 : Int)).set (13 : Nat) (120 : Int)) = IntKind.i64.wrap ((↑((14 : Nat)) : Int).sub (1 : Int))) else false then (14 : Nat) <= (4000 : Nat) /\ (bif (U.lF (((((((((((((([(0 : Int), (0 : Int), (0 : Int), (0 : Int), (0 : Int), (0 : Int), (0 : Int), (0 : Int), (0 : Int), (0 : Int), (0 : Int), (0 : Int), (0 : Int), (0 :
 Int)].set (0 : Nat) (65 : Int)).set (1 : Nat) (58 : Int)).set (2 : Nat) (32 : Int)).set (3 : Nat) (49 : Int)).set (4 : Nat) (13 : Int)).set (5 : Nat) (10 : Int)).set (6 : Nat) (32 : Int)).set (7 : Nat) (50 : Int)).set (8 : Nat) (10 : Int)).set (9 : Nat) (98 : Int)).set (10 : Nat) (58 : Int)).set (11 : Nat) (10 : Int)).set (12 : Nat) (10 : Int)).set (13 : Nat) (120 : Int)) ([[]].set (0 : Nat) [(65 :
 Int)]) true).beq [(98 : Int), (58 : Int), (10 : Int), (13 : Int), (10 : Int)] then decide ((↑((4 : Nat)) : Int) = (4 : Int)) else false) = true /\ True else false = true /\ True
def ni (b : List Int) (names : List (List Int)) (no : Bool) : Prop := bif bif decide ((↑b.length : Int) > (4000 : Int)) then true else decide ((↑names.length : Int) > (40 : Int)) then true = true /\ True else ∃ (x0 : Int), (U.fV b names no (0 : Int) = U.fV b names no x0 /\ U.jk b names no x0) /\ ∀ (x : Int), U.jk b names no x
 -> bif decide (x < (↑names.length : Int)) then (0 : Int) <= x /\ x < (↑names.length : Int) /\ bif decide ((↑(names.getD x.toNat []).length : Int) > (200 : Int)) then true = true /\ True else (decide (x > (0 : Int)) = true -> (0 : Int) <= IntKind.i64.wrap (x.sub (1 : Int))) /\ (decide (x > (0 : Int)) = true -> IntKind.i64.wrap (x.sub (1 : Int)) < (↑names.length : Int)) /\ (decide (x > (0 : Int)) = true -> (0 :
 Int) <= x) /\ (decide (x > (0 : Int)) = true -> x < (↑names.length : Int)) /\ (decide (x > (0 : Int)) = true -> (0 : Int) <= IntKind.i64.wrap (x.sub (1 : Int))) /\ (decide (x > (0 : Int)) = true -> IntKind.i64.wrap (x.sub (1 : Int)) < (↑names.length : Int)) /\ (decide (x > (0 : Int)) = true -> (0 : Int) <= x) /\ (decide (x > (0 : Int)) = true -> x < (↑names.length : Int)) /\ bif bif decide (x > (0 : Int)) then
 !decide (U.dn (names.getD (IntKind.i64.wrap (x.sub (1 : Int))).toNat []) (names.getD x.toNat []) = U.dn (names.getD (IntKind.i64.wrap (x.sub (1 : Int))).toNat []) (names.getD x.toNat [])) else false then false = true /\ True else ∃ (y : Int), U.fV b names no (IntKind.i64.wrap (x.add (1 : Int))) = U.fV b names no y /\ U.jk b names no y /\
 names.length.sub y.toNat < names.length.sub x.toNat else b.length <= (4000 : Nat) /\ b.length <= (4000 : Nat) /\ b.length <= (1000000000 : Nat) /\ ∃ (x0 : Int × Int), (U.fB b names no (4 : Int) (0 : Int) = U.fB b names no x0.1 x0.2 /\ U.iZ b names no x0.1 x0.2) /\ ∀ (x : Int × Int), U.iZ b names no x.1 x.2 -> bif decide (x.2 < (↑(U.fieldsOf
 b).length : Int)) then (0 : Int) <= x.2 /\ x.2 < (↑(U.fieldsOf b).length : Int) /\ (0 : Int) <= x.2 /\ x.2 < (↑(U.fieldsOf b).length : Int) /\ ∃ (y : Int × Int), U.fB b names no (IntKind.i64.wrap ((IntKind.i64.wrap (x.1.add ((U.fieldsOf b).getD x.2.toNat ([], [], (0 : Int), (0 : Int))).2.2.2)).sub ((U.fieldsOf b).getD x.2.toNat ([], [], (0 : Int), (0 : Int))).2.2.1)) (IntKind.i64.wrap
 (x.2.add (1 : Int))) = U.fB b names no y.1 y.2 /\ U.iZ b names no y.1 y.2 /\ (U.fieldsOf b).length.sub y.2.toNat < (U.fieldsOf b).length.sub x.2.toNat else b.length <= (4000 : Nat) /\ (bif decide (U.lF b names no = U.lF b names no) then decide (IntKind.i64.wrap ((↑(U.lF b names no).length : Int).add (↑(U.lF b names !no).length : Int)) = x.1) else false) =
 true /\ True
end Go.Proofs.YtggccomebfpfpaaDoor
set_option linter.unusedSimpArgs false
set_option linter.unusedVariables false
set_option maxRecDepth 100000
namespace Go.Proofs.YtggccomebfpfpaaDoor
open Go.Vc
open Go.Vc.T
theorem yt (b : List Int) : ∀ (a c : List Field) (p : Int), U.sides b p (a ++ c) ↔ U.sides b p a /\ U.sides b (U.gQ p a) c
 | [], c, p => by simp [U.sides, U.gQ]
 | f :: a, c, p => by
   have ih := yt b a c f.2.2.2
   simp only [List.cons_append, U.sides, U.gQ, ih, and_assoc]
theorem H8 : ∀ (a c : List Field) (p : Int), U.gQ p (a ++ c) = U.gQ (U.gQ p a) c
 | [], _, _ => rfl
 | _ :: a, c, _ => H8 a c _
theorem JJ (b : List Int) : ∀ (fs : List Field) (p e : Int) (v : List Int), fs ≠ [] -> U.sides b p fs -> U.gQ p fs <= e -> e <= b.length -> U.sides b p (U.setLast fs v e) /\ U.gQ p (U.setLast fs v e) = e
 | [], _, _, _, h, _, _, _ => absurd rfl h
 | [f], p, e, v, _, ⟨h1, h2, h3, h4, h5, h6, _⟩, hE, hb => by
   have hE : f.2.2.2 <= e := hE
   exact ⟨⟨h1, h2, by show p + (f.1.length : Int) < e; omega, hb, h5, h6, trivial⟩, rfl⟩
 | f :: g :: r, p, e, v, _, ⟨h1, h2, h3, h4, h5, h6, h7⟩, hE, hb => by
   have ih := JJ b (g :: r) f.2.2.2 e v (by simp) h7 hE hb
   have hs : U.setLast (f :: g :: r) v e = f :: U.setLast (g :: r) v e := rfl
   rw [hs]
   exact ⟨⟨h1, h2, h3, h4, h5, h6, ih.1⟩, ih.2⟩
theorem RI (fs : List Field) (n v w : List Int) (p q e : Int) : U.setLast (fs ++ [(n, w, p, q)]) v e = fs ++ [(n, v, p, e)] := by
 unfold U.setLast
 have hl : (fs ++ [((n, w, p, q) : Field)]).length - 1 = fs.length := by simp
 rw [hl, getD_at (by simp), List.set_append_right _ _ (Nat.le_refl _)]
 simp
theorem GL (m : List Int) (c : Int) : ∃ k, U.cu m [c] = m.take k := by
 rw [NC]; cases U.dh m [c]
 ·exact ⟨m.length, (List.take_length).symm⟩
 ·exact ⟨_, rfl⟩
theorem V9 (l : List Int) : U.says l = l.take (U.says l).length := by
 have key : ∃ k, U.says l = l.take k := by
  unfold U.says
  cases U.dh l [10]
  ·exact ⟨l.length, (List.take_length).symm⟩
  ·obtain ⟨k, hk⟩ := GL l 10
   obtain ⟨j, hj⟩ := GL (U.cu l [10]) 13
   show ∃ k, U.cu (U.cu l [10]) [13] = _
   rw [hj, hk, List.take_take]; exact ⟨_, rfl⟩
 obtain ⟨k, hk⟩ := key
 rw [hk, List.length_take]
 by_cases h : k <= l.length
 ·rw [Nat.min_eq_left h]
 ·rw [Nat.min_eq_right (by omega), List.take_length, List.take_of_length_le (by omega)]
theorem Qk : ∀ (l : List Int) (c : Int), 0 <= aH l c -> l.getD (aH l c).toNat 0 = c
 | [], c, h => by simp [aH] at h
 | x :: l, c, h => by
   rw [qw] at h ⊢
   by_cases hx : x = c
   ·rw [if_pos hx]; exact hx
   ·rw [if_neg hx] at h ⊢
    have hb := bG l c
    by_cases hn : aH l c = -1
    ·rw [if_pos hn] at h; omega
    ·rw [if_neg hn] at h ⊢
     have ih := Qk l c (by omega)
     rw [show (aH l c + 1).toNat = (aH l c).toNat + 1 by omega]
     exact ih
theorem getD_take {α : Type} {l : List α} {k n : Nat} {d : α} (h : k < n) : (l.take n).getD k d = l.getD k d := by
 simp [List.getD_eq_getElem?_getD, List.getElem?_take, h]
theorem getD_drop {α : Type} {l : List α} {k n : Nat} {d : α} : (l.drop n).getD k d = l.getD (n + k) d := by
 simp [List.getD_eq_getElem?_getD, List.getElem?_drop]
theorem H9 (b : List Int) : ∀ (n : Nat) (s : U.HS), 0 <= s.2.2 -> s.2.2 <= b.length -> b.length - s.2.2.toNat <= n -> U.sides b 0 s.1 -> U.gQ 0 s.1 = s.2.2 -> ∀ R, R = U.dA s (U.ah 10 (b.drop s.2.2.toNat)) ->
 U.sides b 0 R.1.1 /\ U.gQ 0 R.1.1 = R.1.2.2
 | 0, s, h0, h1, hn, hs, he, R, hR => by
   rw [zF s (by omega)] at hR
   subst hR
   exact ⟨hs, he⟩
 | n + 1, (fs, v, en), h0, h1, hn, hsd, he, R, hR => by
   dsimp only at h0 h1 hn hR hsd he
   by_cases hi : en < b.length
   ·obtain ⟨q1, q2, r, hr, hrr⟩ := yh h0 hi
    have hll : (List.take ((U.endOf b en).toNat.sub en.toNat) (List.drop en.toNat b)).length = (U.endOf b en).toNat - en.toNat := by rw [List.length_take, List.length_drop, bV]; omega
    rw [hr] at hR
    obtain ⟨l, hl⟩ : ∃ l, l = List.take ((U.endOf b en).toNat.sub en.toNat) (List.drop en.toNat b) := ⟨_, rfl⟩
    rw [<- hl] at hR hll
    have hq : U.endOf b en = en + l.length := by omega
    have hne : ¬ l = [] := by intro h; rw [h] at hll; simp at hll; omega
    by_cases hs : U.says l = []
    ·rw [EU _ _ hne hs] at hR
     subst hR
     exact ⟨hsd, he⟩
    ·cases hm : U.more (fs, v, en) l with
     | true =>
       rw [EW fs v en _ hne hs hm, hrr, hq] at hR
       have hfs : fs ≠ [] := by
        unfold U.more at hm
        simp only [Bool.and_eq_true, decide_eq_true_eq] at hm
        exact hm.2
       have hN := JJ b fs 0 (en + l.length) (U.trimB (v ++ U.says l)) hfs hsd (by omega) (by omega)
       exact H9 b n (_, _, en + l.length) (by show 0 <= en + (l.length : Int); omega) (by show en + (l.length : Int) <= _; omega) (by show b.length - (en + (l.length : Int)).toNat <= n; omega) hN.1 hN.2 R hR
     | false =>
       cases hbg : U.begins (U.says l) with
       | true =>
         rw [AX fs v en _ hne hs hm hbg, hrr, hq, RI] at hR
         obtain ⟨_, c2, c3, c4, _⟩ := LM hbg
         have hsl := H6 l
         have hpre : U.says l = (b.drop en.toNat).take (U.says l).length := by
          have h := V9 l
          rw [hl, List.take_take, <- hl] at h
          rwa [Nat.min_eq_left (by rw [bV]; omega)] at h
         have hA : (U.aC (U.says l) 58).length = (aH (U.says l) 58).toNat := by rw [c4, List.length_take]; omega
         have hN : U.sides b 0 (fs ++ [(U.aC (U.says l) 58, U.trimB (U.bJ (U.says l) 58), en, en + l.length)]) /\ U.gQ 0 (fs ++ [(U.aC (U.says l) 58, U.trimB (U.bJ (U.says l) 58), en, en + l.length)]) = en + l.length := by
          rw [yt, H8, he]
          refine ⟨⟨hsd, rfl, ?_, ?_, ?_, ?_, ?_, trivial⟩, rfl⟩
          ·intro h
           have h := congrArg List.length (show U.aC (U.says l) 58 = [] from h)
           rw [hA] at h; simp at h; omega
          ·show en + ((U.aC (U.says l) 58).length : Int) < en + l.length; omega
          ·show en + (l.length : Int) <= _; omega
          ·show (b.drop en.toNat).take (U.aC (U.says l) 58).length = U.aC (U.says l) 58
           rw [hA, c4]
           generalize hI : (aH (U.says l) 58).toNat = I
           rw [hpre, List.take_take, Nat.min_eq_left (by omega)]
          ·show b.getD (en + ((U.aC (U.says l) 58).length : Int)).toNat 0 = 58
           have h := Qk (U.says l) 58 (by omega)
           rw [hpre, getD_take (by rw [<- hpre]; omega), <- hpre, getD_drop] at h
           rw [hA, show (en + (((aH (U.says l) 58).toNat : Nat) : Int)).toNat = en.toNat + (aH (U.says l) 58).toNat by omega]; exact h
         exact H9 b n (_, _, en + l.length) (by show 0 <= en + (l.length : Int); omega) (by show en + (l.length : Int) <= _; omega) (by show b.length - (en + (l.length : Int)).toNat <= n; omega) hN.1 hN.2 R hR
       | false =>
         rw [EX fs v en _ hne hs hm hbg] at hR
         subst hR
         exact ⟨hsd, he⟩
   ·rw [zF _ (by omega)] at hR
    subst hR
    exact ⟨hsd, he⟩
theorem EY (b : List Int) : ∀ (fs : List Field) (p : Int), U.sides b p fs -> p <= U.gQ p fs /\ (p <= b.length -> U.gQ p fs <= b.length)
 | [], p, _ => ⟨Int.le_refl p, id⟩
 | f :: r, p, ⟨h1, h2, h3, h4, h5, h6, h7⟩ => by
   have ih := EY b r f.2.2.2 h7
   exact ⟨by show p <= U.gQ f.2.2.2 r; omega, fun _ => ih.2 h4⟩
theorem qW (b : List Int) : U.sides b 0 (U.fieldsOf b) /\ 0 <= U.gQ 0 (U.fieldsOf b) /\ U.gQ 0 (U.fieldsOf b) <= U.textOf b /\ U.textOf b <= b.length := by
 have h := H9 b b.length ([], [], 0) (Int.le_refl 0) (by show (0 : Int) <= _; omega) (Nat.sub_le _ _) trivial rfl (U.hread b) rfl
 have ht := SE b
 have hsp : (U.hread b).1.1 = U.fieldsOf b ++ (U.hread b).1.1.drop 40 := (List.take_append_drop 40 _).symm
 rw [hsp, yt, H8] at h
 have h1 := EY b _ _ h.1.1
 have h2 := EY b _ _ h.1.2
 exact ⟨h.1.1, h1.1, by omega, ht.2⟩
theorem SG {b : List Int} {l : List Field} {i : Nat} (hi : i < l.length) (hs : U.sides b 0 l) : 0 <= l[i].2.2.1 /\ l[i].2.2.1 <= l[i].2.2.2 /\ l[i].2.2.2 <= b.length /\ (b.drop l[i].2.2.1.toNat).take l[i].1.length = l[i].1 := by
 have hsp : l = l.take i ++ l[i] :: l.drop (i + 1) := by rw [<- List.drop_eq_getElem_cons hi, List.take_append_drop]
 rw [hsp, yt] at hs
 have h1 := EY b _ _ hs.1
 obtain ⟨h2, h3, h4, h5, h6, h7, h8⟩ := hs.2
 exact ⟨by omega, by omega, h5, by rw [h2]; exact h6⟩
theorem SH {b : List Int} {names : List (List Int)} {no : Bool} {l : List Field} {i : Int} (h0 : 0 <= i) (hi : i < l.length) : U.lD b names no (l.drop i.toNat) = cond (U.picks names no l[i.toNat]) (U.iI b l[i.toNat]) [] ++ U.lD b names no (l.drop (i + 1).toNat) := by
 rw [drop_at h0 hi]; rfl
theorem Wh {b : List Int} {f : Field} (h0 : 0 <= f.2.2.1) (h1 : f.2.2.1 <= f.2.2.2) (h2 : f.2.2.2 <= b.length) : ((U.iI b f).length : Int) = f.2.2.2 - f.2.2.1 := by
 unfold U.iI; rw [List.length_take, List.length_drop]; omega
theorem Ia (b : List Int) (names : List (List Int)) (no : Bool) : ∀ (fs : List Field) (p : Int), 0 <= p -> U.sides b p fs ->
 ((U.lD b names no fs).length : Int) + (U.lD b names (!no) fs).length = U.gQ p fs - p
 | [], p, _, _ => by show (0 : Int) + 0 = p - p; omega
 | f :: r, p, h0, ⟨h1, h2, h3, h4, h5, h6, h7⟩ => by
   have ih := Ia b names no r f.2.2.2 (by omega) h7
   have hp := Wh (b := b) (f := f) (by omega) (by omega) h4
   have hA : ∀ no, U.lD b names no (f :: r) = cond (U.picks names no f) (U.iI b f) [] ++ U.lD b names no r := fun _ => rfl
   have hq : U.picks names (!no) f = !(U.picks names no f) := by unfold U.picks; cases names.any (U.dn f.1) <;> cases no <;> rfl
   rw [hA, hA, hq]
   show _ = U.gQ f.2.2.2 r - p
   cases U.picks names no f
   ·show (((([] : List Int) ++ _).length : Nat) : Int) + (((U.iI b f ++ _).length : Nat) : Int) = _
    rw [List.nil_append, List.length_append]; push_cast; omega
   ·show (((U.iI b f ++ _).length : Nat) : Int) + (((([] : List Int) ++ _).length : Nat) : Int) = _
    rw [List.nil_append, List.length_append]; push_cast; omega
theorem SI (b : List Int) (names : List (List Int)) (no : Bool) : (U.lD b names no (U.fieldsOf b)).length <= b.length := by
 have h := qW b
 have h1 := Ia b names no _ 0 (Int.le_refl 0) h.1
 omega
theorem RN (b : List Int) (names : List (List Int)) (no : Bool) (hl : b.length <= maxLen) (hn : names.length <= maxLen) (h : b.length <= 4000) : yZ b names no := by
 unfold yZ
 rw [maxLen_eq] at hn
 have hsd := (qW b).1
 have hbd := SI b names no
 have hfl : (U.fieldsOf b).length <= 40 := List.length_take_le _ _
 refine ⟨by omega, ([], 0), ⟨rfl, ⟨Int.le_refl 0, by show (0 : Int) <= _; omega⟩, rfl⟩, ?_⟩
 rintro ⟨o, i⟩ ⟨⟨i0, i1⟩, hI⟩
 dsimp only at i0 i1 hI ⊢
 rw [cond_prop]
 refine ⟨fun hi => ?_, fun hi => ?_⟩
 ·have hi : i < (U.fieldsOf b).length := of_decide_eq_true hi
  rw [SH i0 hi] at hI
  rw [getD_at (by omega : i.toNat < (U.fieldsOf b).length)]
  obtain ⟨s1, s2, s3, _⟩ := SG (by omega : i.toNat < (U.fieldsOf b).length) hsd
  generalize (U.fieldsOf b)[i.toNat] = fd at hI s1 s2 s3 ⊢
  have hol : o.length + (cond (U.picks names no fd) (U.iI b fd) []).length <= b.length := by
   have h := congrArg List.length hI
   rw [List.length_append, List.length_append] at h; omega
  have hcut : List.take (fd.2.2.2.toNat.sub fd.2.2.1.toNat) (List.drop fd.2.2.1.toNat b) = U.iI b fd := rfl
  refine ⟨i0, hi, (o, fd, 0), ⟨rfl, rfl, rfl, ⟨Int.le_refl 0, by show (0 : Int) <= _; omega⟩, rfl⟩, ?_⟩
  rintro ⟨o', fd', j⟩ ⟨he1, he2, ⟨j0, j1⟩, hJ⟩
  dsimp only at he1 he2 j0 j1 hJ ⊢
  have he1 := he1.symm; have he2 := he2.symm
  subst he1 he2
  rw [hcut]
  have hend : ∀ (a : Bool), names.any (U.dn fd.1) = a -> bif !decide (a = no) then 0 <= fd.2.2.1 /\ fd.2.2.1 <= fd.2.2.2 /\ fd.2.2.2 <= (b.length : Int) /\ (o.length.add (U.iI b fd).length).mul 1 <= 140737488355328 /\ o.length.add (U.iI b fd).length <= maxLen /\ ∃ (y : List Int × Int), U.bH b names no (o.append (U.iI b fd)) (IntKind.i64.wrap (i.add 1)) = U.bH b names no y.1 y.2 /\ U.eF b names no y.1 y.2 /\ (U.fieldsOf b).length.sub y.2.toNat < (U.fieldsOf b).length.sub i.toNat
   else ∃ (y : List Int × Int), U.bH b names no o (IntKind.i64.wrap (i.add 1)) = U.bH b names no y.1 y.2 /\ U.eF b names no y.1 y.2 /\ (U.fieldsOf b).length.sub y.2.toNat < (U.fieldsOf b).length.sub i.toNat := by
   intro a ha
   have hp : U.picks names no fd = !decide (a = no) := by unfold U.picks; rw [ha]
   rw [hp] at hI hol
   rw [dQ (by omega) (by omega)]
   cases hc : !decide (a = no) with
   | true =>
     rw [hc] at hI hol
     have hol : o.length + (U.iI b fd).length <= b.length := hol
     refine ⟨s1, s2, s3, by simp only [dD, jX]; omega, by simp only [dD, maxLen_eq]; omega, ⟨(o ++ U.iI b fd, i + 1), rfl, ⟨⟨by show 0 <= i + 1; omega, by show i + 1 <= _; omega⟩, ?_⟩, by simp only [bV]; omega⟩⟩
     rw [List.append_assoc]; exact hI
   | false =>
     rw [hc] at hI
     exact ⟨(o, i + 1), rfl, ⟨⟨by show 0 <= i + 1; omega, by show i + 1 <= _; omega⟩, hI⟩, by simp only [bV]; omega⟩
  rw [cond_prop]
  refine ⟨fun hj => ?_, fun hj => ?_⟩
  ·have hj : j < names.length := of_decide_eq_true hj
   rw [Pq j0 hj] at hJ
   rw [getD_at (by omega : j.toNat < names.length)]
   refine ⟨j0, hj, ?_⟩
   cases hs : U.dn fd.1 names[j.toNat] with
   | true =>
     rw [hs, Bool.true_or] at hJ
     have := hend true hJ.symm
     rw [decide_eq_true (by omega : j >= 0)]
     exact this
   | false =>
     rw [hs, Bool.false_or] at hJ
     exact ⟨(o, fd, j + 1), by rw [dQ (by omega) (by omega)], ⟨rfl, rfl, ⟨by show 0 <= j + 1; omega, by show j + 1 <= _; omega⟩, hJ⟩, by simp only [bV]; omega⟩
  ·have hj : ¬ j < names.length := of_decide_eq_false hj
   rw [drop_end (by omega)] at hJ
   exact hend false hJ.symm
 ·have hi : ¬ i < (U.fieldsOf b).length := of_decide_eq_false hi
  rw [drop_end (by omega)] at hI
  have hI : o ++ [] = _ := hI
  rw [List.append_nil] at hI
  have := congrArg List.length hI
  refine ⟨by simp only [dD, jX]; omega, by simp only [dD, maxLen_eq]; omega, ?_, trivial⟩
  rw [hI]; rfl
theorem Ql (b : List Int) (names : List (List Int)) (no : Bool) (hl : b.length <= maxLen) (hn : names.length <= maxLen) (h : b.length <= 4000) : xC b names no := by
 unfold xC
 rw [maxLen_eq] at hn
 have hsd := (qW b).1
 have hbd := SI b names no
 have hfl : (U.fieldsOf b).length <= 40 := List.length_take_le _ _
 refine ⟨by omega, ([], 0), ⟨rfl, ⟨Int.le_refl 0, by show (0 : Int) <= _; omega⟩, rfl⟩, ?_⟩
 rintro ⟨o, i⟩ ⟨⟨i0, i1⟩, hI⟩
 dsimp only at i0 i1 hI ⊢
 rw [cond_prop]
 refine ⟨fun hi => ?_, fun hi => ?_⟩
 ·have hi : i < (U.fieldsOf b).length := of_decide_eq_true hi
  rw [SH i0 hi] at hI
  obtain ⟨s1, s2, s3, _⟩ := SG (by omega : i.toNat < (U.fieldsOf b).length) hsd
  have hg : (U.fieldsOf b).getD i.toNat U.f0 = (U.fieldsOf b)[i.toNat] := getD_at (by omega)
  have hg' : (U.fieldsOf b).getD i.toNat ([], [], 0, 0) = (U.fieldsOf b)[i.toNat] := getD_at (by omega)
  refine ⟨(o, i, false, 0), ⟨rfl, rfl, rfl, ⟨Int.le_refl 0, by show (0 : Int) <= _; omega⟩, rfl⟩, ?_⟩
  rintro ⟨o', i', z, j⟩ ⟨he1, he2, ⟨j0, j1⟩, hJ⟩
  dsimp only at he1 he2 j0 j1 hJ ⊢
  have he1 := he1.symm; have he2 := he2.symm
  subst he1 he2
  rw [hg] at hJ
  rw [hg']
  generalize hfd : (U.fieldsOf b)[i.toNat] = fd at hI s1 s2 s3 hJ ⊢
  have hol : o.length + (cond (U.picks names no fd) (U.iI b fd) []).length <= b.length := by
   have h := congrArg List.length hI
   rw [List.length_append, List.length_append] at h; omega
  have hcut : List.take (fd.2.2.2.toNat.sub fd.2.2.1.toNat) (List.drop fd.2.2.1.toNat b) = U.iI b fd := rfl
  rw [hcut, cond_prop]
  refine ⟨fun hj => ?_, fun hj => ?_⟩
  ·have hj : j < names.length := of_decide_eq_true hj
   rw [Pq j0 hj] at hJ
   rw [getD_at (by omega : j.toNat < names.length)]
   refine ⟨fun _ => i0, fun _ => hi, fun _ => j0, fun _ => hj, ?_⟩
   refine ⟨(o, i, z || U.dn fd.1 names[j.toNat], j + 1), by rw [dQ (by omega) (by omega)]; cases z <;> rfl, ⟨rfl, rfl, ⟨by show 0 <= j + 1; omega, by show j + 1 <= _; omega⟩, ?_⟩, by simp only [bV]; omega⟩
   rw [hg, hfd, <- hJ, Bool.or_assoc]
  ·have hj : ¬ j < names.length := of_decide_eq_false hj
   rw [drop_end (by omega)] at hJ
   have hJ : (z || false) = _ := hJ
   rw [Bool.or_false] at hJ
   have hp : U.picks names no fd = !decide (z = no) := by unfold U.picks; rw [hJ]
   rw [hp] at hI hol
   rw [dQ (by omega) (by omega)]
   cases hc : !decide (z = no) with
   | true =>
     rw [hc] at hI hol
     have hol : o.length + (U.iI b fd).length <= b.length := hol
     refine ⟨i0, hi, i0, hi, s1, s2, s3, by simp only [dD, jX]; omega, by simp only [dD, maxLen_eq]; omega, ⟨(o ++ U.iI b fd, i + 1), rfl, ⟨⟨by show 0 <= i + 1; omega, by show i + 1 <= _; omega⟩, ?_⟩, by simp only [bV]; omega⟩⟩
     rw [List.append_assoc]; exact hI
   | false =>
     rw [hc] at hI
     exact ⟨(o, i + 1), rfl, ⟨⟨by show 0 <= i + 1; omega, by show i + 1 <= _; omega⟩, hI⟩, by simp only [bV]; omega⟩
 ·have hi : ¬ i < (U.fieldsOf b).length := of_decide_eq_false hi
  rw [drop_end (by omega)] at hI
  have hI : o ++ [] = _ := hI
  rw [List.append_nil] at hI
  have := congrArg List.length hI
  refine ⟨by simp only [dD, jX]; omega, by simp only [dD, maxLen_eq]; omega, ?_, trivial⟩
  rw [hI]; rfl
theorem MZ : sW := by
 unfold sW
 refine ⟨by omega, by omega, fun _ => by omega, fun _ => by omega, ?_⟩
 rw [cond_prop]
 exact ⟨fun _ => ⟨by omega, by decide +kernel, trivial⟩, fun h => absurd h (by decide +kernel)⟩
theorem Ib (b : List Int) (names : List (List Int)) (no : Bool) (hv : names.length <= maxLen) : ni b names no := by
 unfold ni
 rw [cond_prop]
 refine ⟨fun _ => ⟨rfl, trivial⟩, fun h => ?_⟩
 rw [ER] at h
 simp only [Bool.or_eq_false_iff, decide_eq_false_iff_not] at h
 have hsd := qW b
 have hlen := Ia b names no _ 0 (Int.le_refl 0) hsd.1
 have hfl : (U.fieldsOf b).length <= 40 := List.length_take_le _ _
 refine ⟨0, ⟨rfl, Int.le_refl 0, by show (0 : Int) <= _; omega⟩, ?_⟩
 rintro i ⟨i0, i1⟩
 rw [cond_prop]
 refine ⟨fun hi => ?_, fun hi => ?_⟩
 ·have hi : i < names.length := of_decide_eq_true hi
  refine ⟨i0, hi, ?_⟩
  rw [cond_prop]
  refine ⟨fun _ => ⟨rfl, trivial⟩, fun hs => ?_⟩
  rw [iH (a := i) (by omega) (by omega)]
  refine ⟨fun hp => ?_, fun hp => ?_, fun hp => i0, fun hp => hi, fun hp => ?_, fun hp => ?_, fun hp => i0, fun hp => hi, ?_⟩
  ·have := of_decide_eq_true hp; omega
  ·omega
  ·have := of_decide_eq_true hp; omega
  ·omega
  ·rw [decide_eq_true rfl, Bool.not_true, iD, Bool.and_false]
   exact ⟨i + 1, by rw [dQ (by omega) (by omega)], ⟨by show 0 <= i + 1; omega, by show i + 1 <= _; omega⟩, by simp only [bV]; omega⟩
 ·have hb : b.length <= 4000 := by omega
  refine ⟨hb, hb, by omega, (4, 0), ⟨rfl, ⟨Int.le_refl 0, by show (0 : Int) <= _; omega⟩, Int.le_refl 4, by show (4 : Int) <= _; omega, hsd.1, rfl⟩, ?_⟩
  rintro ⟨n, k⟩ ⟨⟨k0, k1⟩, n0, n1, hS, hE⟩
  dsimp only at k0 k1 n0 n1 hS hE ⊢
  rw [cond_prop]
  refine ⟨fun hk => ?_, fun hk => ?_⟩
  ·have hk : k < (U.fieldsOf b).length := of_decide_eq_true hk
   rw [getD_at (by omega : k.toNat < (U.fieldsOf b).length)]
   rw [drop_at k0 hk] at hS hE
   generalize (U.fieldsOf b)[k.toNat] = fd at hS hE ⊢
   obtain ⟨h1, h2, h3, h4, h5, h6, h7⟩ := hS
   have hE : U.gQ fd.2.2.2 _ = _ := hE
   refine ⟨k0, hk, k0, hk, (fd.2.2.2 + 4, k + 1), ?_, ⟨⟨by show 0 <= k + 1; omega, by show k + 1 <= _; omega⟩, by show 4 <= fd.2.2.2 + 4; omega, by show fd.2.2.2 + 4 <= _; omega, ?_, ?_⟩, by simp only [bV]; omega⟩
   ·rw [dQ (a := k) (by omega) (by omega), dQ (a := n) (by omega) (by omega), iH (by omega) (by omega)]
    congr 1; omega
   ·show U.sides b (fd.2.2.2 + 4 - 4) _
    rw [Int.add_sub_cancel]; exact h7
   ·show U.gQ (fd.2.2.2 + 4 - 4) _ = _
    rw [Int.add_sub_cancel]; exact hE
  ·have hk : ¬ k < (U.fieldsOf b).length := of_decide_eq_false hk
   rw [drop_end (by omega)] at hE
   have hE : n - 4 = U.gQ 0 (U.fieldsOf b) := hE
   refine ⟨hb, ?_, trivial⟩
   rw [decide_eq_true rfl]
   show decide _ = true
   have hA : ∀ no, ((U.lF b names no).length : Int) = (U.lD b names no (U.fieldsOf b)).length + 2 := fun no => by
    unfold U.lF; rw [List.length_append]; rfl
   rw [decide_eq_true_eq, hA, hA, dQ (by omega) (by omega)]; omega
end Go.Proofs.YtggccomebfpfpaaDoor
set_option linter.unusedSimpArgs false
set_option maxRecDepth 100000
set_option linter.unusedVariables false
namespace Go.Proofs.YtggccomebfpfpaaDoor
open Go.Vc
theorem UO (x : aK [au, iW, .bool]) : bZ Tryd.prog (bg qP) (JI x.1 x.2.1 x.2.2) 19 (bU [au, iW, .bool] x) [] (uN x.1 x.2.1 x.2.2) = yZ x.1 x.2.1 x.2.2 := by kernel_rfl
theorem UQ : Pok 19 [au, iW, .bool] (fun x => uN x.1 x.2.1 x.2.2) := by
 refine pk (L := fun x => JI x.1 x.2.1 x.2.2) (l := qP) Ej (fun _ => rfl) ?_
 intro x hv hp
 rw [UO]
 exact RN x.1 x.2.1 x.2.2 hv.1.2 hv.2.1.2 (hp (List.length x.1 <= 4000) (by simp [uN]))
theorem UR : bQ Tryd.prog gl 19 JH := UQ
theorem GN : bn uO := .cons UR Ej
theorem RP (x : aK [au, iW, .bool]) : bZ Tryd.prog (bg uO) (GK x.1 x.2.1 x.2.2) 21 (bU [au, iW, .bool] x) [] (qU x.1 x.2.1 x.2.2) = xC x.1 x.2.1 x.2.2 := by kernel_rfl
theorem RQ : Pok 21 [au, iW, .bool] (fun x => qU x.1 x.2.1 x.2.2) := by
 refine pk (L := fun x => GK x.1 x.2.1 x.2.2) (l := uO) GN (fun _ => rfl) ?_
 intro x hv hp
 rw [RP]
 exact Ql x.1 x.2.1 x.2.2 hv.1.2 hv.2.1.2 (hp (List.length x.1 <= 4000) (by simp [qU]))
theorem RS : bQ Tryd.prog gl 21 GI := RQ
theorem Ep : bn qV := .cons RS GN
theorem Qm (x : aK []) : bZ Tryd.prog (bg qV) (Eo ) 7 (bU [] x) [] (xA ) = sW  := by kernel_rfl
theorem Qn : Pok 7 [] (fun x => xA ) := by
 refine pk (L := fun x => Eo ) (l := qV) Ep (fun _ => rfl) ?_
 intro x hv hp
 rw [Qm]
 exact MZ
theorem Qo : bQ Tryd.prog gl 7 En := Qn
theorem Na : bn xB := .cons Qo Ep
end Go.Proofs.YtggccomebfpfpaaDoor
