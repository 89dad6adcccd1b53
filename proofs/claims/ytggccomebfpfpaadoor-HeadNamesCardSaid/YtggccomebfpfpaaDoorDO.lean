/- What functions of this seat compute, in plain Lean. -/
import Derived.Test.YtggccomebfpfpaaDoorDB
import Derived.Test.YtggccomebfpfpaaDoorDC
set_option linter.unusedVariables false
set_option linter.unusedSimpArgs false
set_option maxRecDepth 100000
namespace Go.Proofs.YtggccomebfpfpaaDoor
open Go.Vc
namespace U
def sides (b : List Int) : Int -> List Field -> Prop
 | _, [] => True
 | p, f :: r => f.2.2.1 = p /\ f.1 ≠ [] /\ p + f.1.length < f.2.2.2 /\ f.2.2.2 <= b.length /\ (b.drop p.toNat).take f.1.length = f.1 /\ b.getD (p + f.1.length).toNat 0 = 58 /\ sides b f.2.2.2 r
def jE : Int -> List Field -> Int
 | p, [] => p
 | _, f :: r => jE f.2.2.2 r
def uY (l : List Field) (n : List Int) : List Int := (dM l n).1
end U
namespace U
def bn (b : List Int) (names : List (List Int)) (no : Bool) (o : List Int) (i : Int) : St2 := ⟨⟨[sL false (.int .u8) b] ++ [sL false .str names] ++ [sB no] ++ U.n 4 ++ [own 0] ++ U.n 3 ++ [sL true uT (fieldsOf b)] ++ [sI (fieldsOf b).length] ++ [sI i] ++ U.n 19, [], [(0, .row 5 (.int .u8) true true o)]⟩, 1, []⟩
def dZ (b : List Int) (names : List (List Int)) (no : Bool)  (o : List Int) (i : Int) : Prop := at_ (fieldsOf b) i /\ o ++ oZ b names no ((fieldsOf b).drop i.toNat) = oZ b names no (fieldsOf b)
def kC (names : List (List Int)) (o : List Int) (fd : Field) (j : Int) : St2 := ⟨⟨[sL false .str names] ++ [sF 32 [1]] ++ U.n 5 ++ [sI names.length] ++ [sI j] ++ U.n 10, [], [(0, .row 5 (.int .u8) true true o), (1, .obj [.str fd.1, .str fd.2.1, .int .i64 fd.2.2.1, .int .i64 fd.2.2.2])]⟩, 2, []⟩
def pF (names : List (List Int)) (o' : List Int) (fd' : Field) (j' : Int) (o : List Int) (fd : Field) (j : Int) : Prop :=  o = o' /\ fd = fd' /\ at_ names j /\ (names.drop j.toNat).any (cu fd.1) = names.any (cu fd.1)
def bV (b : List Int) (k8 : Int) (fd : Field) (s : List Int) (i : Int) : St2 := ⟨⟨[sL false (.int .u8) b] ++ U.n 4 ++ [sL true uT (fieldsOf b)] ++ U.n 2 ++ [sP 0 0] ++ [own 1] ++ [sI i] ++ U.n 114, [], [(0, .obj [.str fd.1, .str fd.2.1, .int .i64 fd.2.2.1, .int .i64 fd.2.2.2]), (1, .row 5 (.int .u8) true false s)]⟩, 2, []⟩
def fA (b : List Int) (k8 : Int) (fd' : Field) (s' : List Int) (i' : Int) (fd : Field) (s : List Int) (i : Int) : Prop :=  fd = fd' /\ at_ s i /\ (∀ x ∈ s, Byte x) /\ s.map small = fd.1.map small
def bW (b : List Int) (k8 : Int) (fd : Field) (s : List Int) (u : Bool) (t : List Int) (v : Bool) (fi : List Int) (i : Int) : St2 := ⟨⟨U.n 5 ++ [sL true uT (fieldsOf b)] ++ U.n 2 ++ [sP 0 0] ++ U.n 2 ++ [sS s] ++ [sB u] ++ [sS t] ++ [sB v] ++ [sS fi] ++ [sI i] ++ U.n 108, [], [(0, .obj [.str fd.1, .str fd.2.1, .int .i64 fd.2.2.1, .int .i64 fd.2.2.2])]⟩, 1, []⟩
def fB (b : List Int) (k8 : Int) (fd' : Field) (s' : List Int) (u' : Bool) (t' : List Int) (v' : Bool) (fi' : List Int) (i' : Int) (fd : Field) (s : List Int) (u : Bool) (t : List Int) (v : Bool) (fi : List Int) (i : Int) : Prop :=  fd = fd' /\ s = s' /\ u = u' /\ t = t' /\ v = v' /\ -1 <= i /\ i < (fieldsOf b).length /\ fi = uY ((fieldsOf b).drop (i + 1).toNat) fd.1
end U
def JB (b : List Int) (names : List (List Int)) (no : Bool) : Vc.Loop := ⟨{ keep := [0, 1, 2, 7, 11, 12, 13], wake := [(7, 5)] }, List Int × Int, fun x => U.bn b names no x.1 x.2, fun x0 x => U.dZ b names no  x.1 x.2, fun x => (U.fieldsOf b).length - x.2.toNat, fun p => ∀ x, p x, fun _ h => h⟩
def MV (names : List (List Int)) : Vc.Loop := ⟨{ keep := [0, 1, 7, 8] }, List Int × Field × Int, fun x => U.kC names x.1 x.2.1 x.2.2, fun x0 x => U.pF names x0.1 x0.2.1 x0.2.2 x.1 x.2.1 x.2.2, fun x => names.length - x.2.2.toNat, fun p => ∀ x, p x, fun _ h => h⟩
def zh (b : List Int) (k8 : Int) : Vc.Loop := ⟨{ keep := [0, 5, 8, 9, 10] }, Field × List Int × Int, fun x => U.bV b k8 x.1 x.2.1 x.2.2, fun x0 x => U.fA b k8 x0.1 x0.2.1 x0.2.2 x.1 x.2.1 x.2.2, fun x => x.2.1.length - x.2.2.toNat, fun p => ∀ x, p x, fun _ h => h⟩
def zi (b : List Int) (k8 : Int) : Vc.Loop := ⟨{ keep := [5, 8, 11, 12, 13, 14, 15, 16] }, Field × List Int × Bool × List Int × Bool × List Int × Int, fun x => U.bW b k8 x.1 x.2.1 x.2.2.1 x.2.2.2.1 x.2.2.2.2.1 x.2.2.2.2.2.1 x.2.2.2.2.2.2, fun x0 x => U.fB b k8 x0.1 x0.2.1 x0.2.2.1 x0.2.2.2.1 x0.2.2.2.2.1 x0.2.2.2.2.2.1 x0.2.2.2.2.2.2 x.1 x.2.1 x.2.2.1 x.2.2.2.1 x.2.2.2.2.1 x.2.2.2.2.2.1 x.2.2.2.2.2.2, fun x => (x.2.2.2.2.2.2 + 1).toNat, fun p => ∀ x, p x, fun _ h => h⟩
def rQ (b : List Int) (names : List (List Int)) (no : Bool) : Done := ⟨[b.length <= 4000], .one (.psl true (.int .u8) (U.P7 b names no)), [], []⟩
def GU : Vc.Sum := .pure [aA, JW, .bool] false fun x => rQ x.1 x.2.1 x.2.2
def GV (b : List Int) (names : List (List Int)) (no : Bool) : Nat -> List V -> Nat -> Option Vc.Loop := fun f v k => cond (Nat.beq f 19 && Nat.beq k 3) (some (JB b names no)) <| cond (Nat.beq f 41 && Nat.beq k 2) (some (MV names)) <| none
def rU : List (Nat × Ent) := (19, .sum GU) :: pz
def uZ  : Done := ⟨[], .one (.bool true), [], []⟩
def BJ : Vc.Sum := .pure [] false fun _ => uZ
def BK  : Nat -> List V -> Nat -> Option Vc.Loop := fU
def vg : List (Nat × Ent) := (7, .sum BJ) :: rU
def vk (b : List Int) (k8 : Int) : Nat -> List V -> Nat -> Option Vc.Loop := fun f v k => cond (Nat.beq f 6 && Nat.beq k 12) (some (zh b k8)) <| cond (Nat.beq f 6 && Nat.beq k 20) (some (zi b k8)) <| none
end Go.Proofs.YtggccomebfpfpaaDoor
set_option maxRecDepth 100000
set_option linter.unusedVariables false
namespace Go.Proofs.YtggccomebfpfpaaDoor
open Go.Vc
def wY (b : List Int) (names : List (List Int)) (no : Bool) : Prop := b.length <= (1000000000 : Nat) /\ ∃ (x0 : List Int × Int), (U.bn b names no [] (0 : Int) = U.bn b names no x0.1 x0.2 /\ U.dZ b names no x0.1 x0.2) /\ ∀ (x : List Int × Int), U.dZ b names no x.1 x.2 -> bif decide (x.2 < (↑(U.fieldsOf b).length : Int)) then (0 : Int) <= x.2 /\ x.2 <
 (↑(U.fieldsOf b).length : Int) /\ ∃ (x0 : List Int × (List Int × List Int × Int × Int) × Int), (U.kC names x.1 ((U.fieldsOf b).getD x.2.toNat ([], [], (0 : Int), (0 : Int))) (0 : Int) = U.kC names x0.1 x0.2.1 x0.2.2 /\ U.pF names x0.1 x0.2.1 x0.2.2 x0.1 x0.2.1 x0.2.2) /\ ∀ (x_1 : List Int × (List Int × List Int × Int × Int) × Int), U.pF names x0.1 x0.2.1 x0.2.2
 x_1.1 x_1.2.1 x_1.2.2 -> bif decide (x_1.2.2 < (↑names.length : Int)) then (0 : Int) <= x_1.2.2 /\ x_1.2.2 < (↑names.length : Int) /\ bif U.cu x_1.2.1.1 (names.getD x_1.2.2.toNat []) then bif !decide (decide (x_1.2.2 >= (0 : Int)) = no) then (0 : Int) <= x_1.2.1.2.2.1 /\ x_1.2.1.2.2.1 <= x_1.2.1.2.2.2 /\ x_1.2.1.2.2.2 <= (↑b.length : Int) /\ (x_1.1.length.add (List.take (x_1.2.1.2.2.2.toNat.sub
 x_1.2.1.2.2.1.toNat) (List.drop x_1.2.1.2.2.1.toNat b)).length).mul (1 : Nat) <= (140737488355328 : Nat) /\ x_1.1.length.add (List.take (x_1.2.1.2.2.2.toNat.sub x_1.2.1.2.2.1.toNat) (List.drop x_1.2.1.2.2.1.toNat b)).length <= maxLen /\ ∃ (y : List Int × Int), U.bn b names no (x_1.1.append (List.take (x_1.2.1.2.2.2.toNat.sub x_1.2.1.2.2.1.toNat) (List.drop x_1.2.1.2.2.1.toNat b)))
 (IntKind.i64.wrap (x.2.add (1 : Int))) = U.bn b names no y.1 y.2 /\ U.dZ b names no y.1 y.2 /\ (U.fieldsOf b).length.sub y.2.toNat < (U.fieldsOf b).length.sub x.2.toNat else ∃ (y : List Int × Int), U.bn b names no x_1.1 (IntKind.i64.wrap (x.2.add (1 : Int))) = U.bn b names no y.1 y.2 /\ U.dZ b names no y.1 y.2 /\ (U.fieldsOf b).length.sub y.2.toNat <
 (U.fieldsOf b).length.sub x.2.toNat else ∃ (y : List Int × (List Int × List Int × Int × Int) × Int), U.kC names x_1.1 x_1.2.1 (IntKind.i64.wrap (x_1.2.2.add (1 : Int))) = U.kC names y.1 y.2.1 y.2.2 /\ U.pF names x0.1 x0.2.1 x0.2.2 y.1 y.2.1 y.2.2 /\ names.length.sub y.2.2.toNat < names.length.sub x_1.2.2.toNat else bif !decide (decide ((-1 : Int) >= (0 : Int)) = no) then
 (0 : Int) <= x_1.2.1.2.2.1 /\ x_1.2.1.2.2.1 <= x_1.2.1.2.2.2 /\ x_1.2.1.2.2.2 <= (↑b.length : Int) /\ (x_1.1.length.add (List.take (x_1.2.1.2.2.2.toNat.sub x_1.2.1.2.2.1.toNat) (List.drop x_1.2.1.2.2.1.toNat b)).length).mul (1 : Nat) <= (140737488355328 : Nat) /\ x_1.1.length.add (List.take (x_1.2.1.2.2.2.toNat.sub x_1.2.1.2.2.1.toNat) (List.drop x_1.2.1.2.2.1.toNat b)).length <= maxLen /\ ∃ (y : List Int ×
 Int), U.bn b names no (x_1.1.append (List.take (x_1.2.1.2.2.2.toNat.sub x_1.2.1.2.2.1.toNat) (List.drop x_1.2.1.2.2.1.toNat b))) (IntKind.i64.wrap (x.2.add (1 : Int))) = U.bn b names no y.1 y.2 /\ U.dZ b names no y.1 y.2 /\ (U.fieldsOf b).length.sub y.2.toNat < (U.fieldsOf b).length.sub x.2.toNat else ∃ (y : List Int × Int), U.bn b names no x_1.1
 (IntKind.i64.wrap (x.2.add (1 : Int))) = U.bn b names no y.1 y.2 /\ U.dZ b names no y.1 y.2 /\ (U.fieldsOf b).length.sub y.2.toNat < (U.fieldsOf b).length.sub x.2.toNat else (x.1.length.add ((2 : Nat))).mul (1 : Nat) <= (140737488355328 : Nat) /\ x.1.length.add ((2 : Nat)) <= maxLen /\ x.1.append [(13 : Int), (10 : Int)] = U.P7 b names no /\ True
def qI : Prop := (0 : Nat) < (14 : Nat) /\ (14 : Nat) <= (1000000000 : Nat) /\ ((bif (U.dM (U.fieldsOf (((((((((((((([(0 : Int), (0 : Int), (0 : Int), (0 : Int), (0 : Int), (0 : Int), (0 : Int), (0 : Int), (0 : Int), (0 : Int), (0 : Int), (0 : Int), (0 : Int), (0 : Int)].set (0 : Nat) (65 : Int)).set (1 : Nat) (58 : Int)).set (2 : Nat) (32 : Int)).set (3 : Nat) (49 : Int)).set (4 : Nat)
 (13 : Int)).set (5 : Nat) (10 : Int)).set (6 : Nat) (32 : Int)).set (7 : Nat) (50 : Int)).set (8 : Nat) (10 : Int)).set (9 : Nat) (98 : Int)).set (10 : Nat) (58 : Int)).set (11 : Nat) (10 : Int)).set (12 : Nat) (10 : Int)).set (13 : Nat) (120 : Int))) [(97 : Int)]).1.beq [(49 : Int), (32 : Int), (50 : Int)] then (U.dM (U.fieldsOf (((((((((((((([(0 : Int), (0 : Int), (0 : Int), (0 : Int), (0 :
 Int), (0 : Int), (0 : Int), (0 : Int), (0 : Int), (0 : Int), (0 : Int), (0 : Int), (0 : Int), (0 : Int)].set (0 : Nat) (65 : Int)).set (1 : Nat) (58 : Int)).set (2 : Nat) (32 : Int)).set (3 : Nat) (49 : Int)).set (4 : Nat) (13 : Int)).set (5 : Nat) (10 : Int)).set (6 : Nat) (32 : Int)).set (7 : Nat) (50 : Int)).set (8 : Nat) (10 : Int)).set (9 : Nat) (98 : Int)).set (10 : Nat) (58 : Int)).set (11 :
 Nat) (10 : Int)).set (12 : Nat) (10 : Int)).set (13 : Nat) (120 : Int))) [(97 : Int)]).2 else false) = true -> (14 : Nat) <= (1000000000 : Nat)) /\ ((bif bif (U.dM (U.fieldsOf (((((((((((((([(0 : Int), (0 : Int), (0 : Int), (0 : Int), (0 : Int), (0 : Int), (0 : Int), (0 : Int), (0 : Int), (0 : Int), (0 : Int), (0 : Int), (0 : Int), (0 : Int)].set (0 : Nat) (65 : Int)).set (1 : Nat) (58 : Int)).set
 (2 : Nat) (32 : Int)).set (3 : Nat) (49 : Int)).set (4 : Nat) (13 : Int)).set (5 : Nat) (10 : Int)).set (6 : Nat) (32 : Int)).set (7 : Nat) (50 : Int)).set (8 : Nat) (10 : Int)).set (9 : Nat) (98 : Int)).set (10 : Nat) (58 : Int)).set (11 : Nat) (10 : Int)).set (12 : Nat) (10 : Int)).set (13 : Nat) (120 : Int))) [(97 : Int)]).1.beq [(49 : Int), (32 : Int), (50 : Int)] then (U.dM (U.fieldsOf
 (((((((((((((([(0 : Int), (0 : Int), (0 : Int), (0 : Int), (0 : Int), (0 : Int), (0 : Int), (0 : Int), (0 : Int), (0 : Int), (0 : Int), (0 : Int), (0 : Int), (0 : Int)].set (0 : Nat) (65 : Int)).set (1 : Nat) (58 : Int)).set (2 : Nat) (32 : Int)).set (3 : Nat) (49 : Int)).set (4 : Nat) (13 : Int)).set (5 : Nat) (10 : Int)).set (6 : Nat) (32 : Int)).set (7 : Nat) (50 : Int)).set (8 : Nat) (10 :
 Int)).set (9 : Nat) (98 : Int)).set (10 : Nat) (58 : Int)).set (11 : Nat) (10 : Int)).set (12 : Nat) (10 : Int)).set (13 : Nat) (120 : Int))) [(97 : Int)]).2 else false then decide ((↑((2 : Nat)) : Int) = (2 : Int)) else false) = true -> (14 : Nat) <= (1000000000 : Nat)) /\ bif bif bif bif (U.dM (U.fieldsOf (((((((((((((([(0 : Int), (0 : Int), (0 : Int), (0 : Int), (0 : Int), (0 : Int), (0 : Int),
 (0 : Int), (0 : Int), (0 : Int), (0 : Int), (0 : Int), (0 : Int), (0 : Int)].set (0 : Nat) (65 : Int)).set (1 : Nat) (58 : Int)).set (2 : Nat) (32 : Int)).set (3 : Nat) (49 : Int)).set (4 : Nat) (13 : Int)).set (5 : Nat) (10 : Int)).set (6 : Nat) (32 : Int)).set (7 : Nat) (50 : Int)).set (8 : Nat) (10 : Int)).set (9 : Nat) (98 : Int)).set (10 : Nat) (58 : Int)).set (11 : Nat) (10 : Int)).set (12 :
 Nat) (10 : Int)).set (13 : Nat) (120 : Int))) [(97 : Int)]).1.beq [(49 : Int), (32 : Int), (50 : Int)] then (U.dM (U.fieldsOf (((((((((((((([(0 : Int), (0 : Int), (0 : Int), (0 : Int), (0 : Int), (0 : Int), (0 : Int), (0 : Int), (0 : Int), (0 : Int), (0 : Int), (0 : Int), (0 : Int), (0 : Int)].set (0 : Nat) (65 : Int)).set (1 : Nat) (58 : Int)).set (2 : Nat) (32 : Int)).set (3 : Nat) (49 :
 Int)).set (4 : Nat) (13 : Int)).set (5 : Nat) (10 : Int)).set (6 : Nat) (32 : Int)).set (7 : Nat) (50 : Int)).set (8 : Nat) (10 : Int)).set (9 : Nat) (98 : Int)).set (10 : Nat) (58 : Int)).set (11 : Nat) (10 : Int)).set (12 : Nat) (10 : Int)).set (13 : Nat) (120 : Int))) [(97 : Int)]).2 else false then decide ((↑((2 : Nat)) : Int) = (2 : Int)) else false then decide (U.textOf (((((((((((((([(0 :
 Int), (0 : Int), (0 : Int), (0 : Int), (0 : Int), (0 : Int), (0 : Int), (0 : Int), (0 : Int), (0 : Int), (0 : Int), (0 : Int), (0 : Int), (0 : Int)].set (0 : Nat) (65 : Int)).set (1 : Nat) (58 : Int)).set (2 : Nat) (32 : Int)).set (3 : Nat) (49 : Int)).set (4 : Nat) (13 : Int)).set (5 : Nat) (10 : Int)).set (6 : Nat) (32 : Int)).set (7 : Nat) (50 : Int)).set (8 : Nat) (10 : Int)).set (9 : Nat) (98
 : Int)).set (10 : Nat) (58 : Int)).set (11 : Nat) (10 : Int)).set (12 : Nat) (10 : Int)).set (13 : Nat) (120 : Int)) = IntKind.i64.wrap ((↑((14 : Nat)) : Int).sub (1 : Int))) else false then (14 : Nat) <= (4000 : Nat) /\ (bif (U.P7 (((((((((((((([(0 : Int), (0 : Int), (0 : Int), (0 : Int), (0 : Int), (0 : Int), (0 : Int), (0 : Int), (0 : Int), (0 : Int), (0 : Int), (0 : Int), (0 : Int), (0 :
 Int)].set (0 : Nat) (65 : Int)).set (1 : Nat) (58 : Int)).set (2 : Nat) (32 : Int)).set (3 : Nat) (49 : Int)).set (4 : Nat) (13 : Int)).set (5 : Nat) (10 : Int)).set (6 : Nat) (32 : Int)).set (7 : Nat) (50 : Int)).set (8 : Nat) (10 : Int)).set (9 : Nat) (98 : Int)).set (10 : Nat) (58 : Int)).set (11 : Nat) (10 : Int)).set (12 : Nat) (10 : Int)).set (13 : Nat) (120 : Int)) ([[]].set (0 : Nat) [(65 :
 Int)]) true).beq [(98 : Int), (58 : Int), (10 : Int), (13 : Int), (10 : Int)] then decide ((↑((4 : Nat)) : Int) = (4 : Int)) else false) = true /\ True else false = true /\ True
def kW (b : List Int) (k8 : Int) : Prop := bif decide ((↑b.length : Int) > (4000 : Int)) then true = true /\ True else b.length <= (1000000000 : Nat) /\ bif decide ((↑(U.fieldsOf b).length : Int) = (0 : Int)) then b.length <= (1000000000 : Nat) /\ (bif (U.dM (U.fieldsOf b) [(70 : Int), (114 : Int), (111 : Int), (109 : Int)]).1.beq [] then !(U.dM (U.fieldsOf b) [(70 : Int), (114 :
 Int), (111 : Int), (109 : Int)]).2 else false) = true /\ True else (↑(U.fieldsOf b).length : Int) ≠ (0 : Int) /\ (0 : Int) <= (IntKind.i64.wrap k8).tmod (↑(U.fieldsOf b).length : Int) /\ (IntKind.i64.wrap k8).tmod (↑(U.fieldsOf b).length : Int) < (↑(U.fieldsOf b).length : Int) /\ ∃ (x0 : (List Int × List Int × Int × Int) × List Int × Int), (U.bV b k8 ((U.fieldsOf b).getD
 ((IntKind.i64.wrap k8).tmod (↑(U.fieldsOf b).length : Int)).toNat ([], [], (0 : Int), (0 : Int))) ((U.fieldsOf b).getD ((IntKind.i64.wrap k8).tmod (↑(U.fieldsOf b).length : Int)).toNat ([], [], (0 : Int), (0 : Int))).1 (0 : Int) = U.bV b k8 x0.1 x0.2.1 x0.2.2 /\ U.fA b k8 x0.1 x0.2.1 x0.2.2 x0.1 x0.2.1 x0.2.2) /\ ∀ (x : (List Int × List Int × Int × Int) × List Int ×
 Int), U.fA b k8 x0.1 x0.2.1 x0.2.2 x.1 x.2.1 x.2.2 -> bif decide (x.2.2 < (↑x.2.1.length : Int)) then (0 : Int) <= x.2.2 /\ x.2.2 < (↑x.2.1.length : Int) /\ x.2.2.toNat < x.2.1.length /\ (decide (IntKind.u8.wrap (↑((BitVec.ofInt IntKind.u8.bits (x.2.1.getD x.2.2.toNat (0 : Int))).or (BitVec.ofInt IntKind.u8.bits (32 : Int))).toNat : Int) >= (97 : Int)) = true -> (0 : Int) <= x.2.2) /\
 (decide (IntKind.u8.wrap (↑((BitVec.ofInt IntKind.u8.bits (x.2.1.getD x.2.2.toNat (0 : Int))).or (BitVec.ofInt IntKind.u8.bits (32 : Int))).toNat : Int) >= (97 : Int)) = true -> x.2.2 < (↑x.2.1.length : Int)) /\ (decide (IntKind.u8.wrap (↑((BitVec.ofInt IntKind.u8.bits (x.2.1.getD x.2.2.toNat (0 : Int))).or (BitVec.ofInt IntKind.u8.bits (32 : Int))).toNat : Int) >= (97 : Int)) = true -> x.2.2.toNat <
 x.2.1.length) /\ bif bif decide (IntKind.u8.wrap (↑((BitVec.ofInt IntKind.u8.bits (x.2.1.getD x.2.2.toNat (0 : Int))).or (BitVec.ofInt IntKind.u8.bits (32 : Int))).toNat : Int) >= (97 : Int)) then decide (IntKind.u8.wrap (↑((BitVec.ofInt IntKind.u8.bits (x.2.1.getD x.2.2.toNat (0 : Int))).or (BitVec.ofInt IntKind.u8.bits (32 : Int))).toNat : Int) <= (122 : Int)) else false then (0 : Int) <= x.2.2 /\
 x.2.2 < (↑x.2.1.length : Int) /\ x.2.2.toNat < x.2.1.length /\ (0 : Int) <= x.2.2 /\ x.2.2 < (↑x.2.1.length : Int) /\ x.2.2.toNat < x.2.1.length /\ ∃ (y : (List Int × List Int × Int × Int) × List Int × Int), U.bV b k8 x.1 (x.2.1.set x.2.2.toNat (IntKind.u8.wrap (↑((BitVec.ofInt IntKind.u8.bits (x.2.1.getD x.2.2.toNat (0 : Int))).xor (BitVec.ofInt IntKind.u8.bits (32 : Int))).toNat :
 Int))) (IntKind.i64.wrap (x.2.2.add (1 : Int))) = U.bV b k8 y.1 y.2.1 y.2.2 /\ U.fA b k8 x0.1 x0.2.1 x0.2.2 y.1 y.2.1 y.2.2 /\ y.2.1.length.sub y.2.2.toNat < x.2.1.length.sub x.2.2.toNat else ∃ (y : (List Int × List Int × Int × Int) × List Int × Int), U.bV b k8 x.1 x.2.1 (IntKind.i64.wrap (x.2.2.add (1 : Int))) = U.bV b k8 y.1
 y.2.1 y.2.2 /\ U.fA b k8 x0.1 x0.2.1 x0.2.2 y.1 y.2.1 y.2.2 /\ y.2.1.length.sub y.2.2.toNat < x.2.1.length.sub x.2.2.toNat else b.length <= (1000000000 : Nat) /\ b.length <= (1000000000 : Nat) /\ ∃ (x0 : (List Int × List Int × Int × Int) × List Int × Bool × List Int × Bool × List Int × Int), (U.bW b k8 x.1 (U.dM (U.fieldsOf b) x.2.1).1 (U.dM (U.fieldsOf b) x.2.1).2
 (U.dM (U.fieldsOf b) x.1.1).1 (U.dM (U.fieldsOf b) x.1.1).2 [] (IntKind.i64.wrap ((↑(U.fieldsOf b).length : Int).sub (1 : Int))) = U.bW b k8 x0.1 x0.2.1 x0.2.2.1 x0.2.2.2.1 x0.2.2.2.2.1 x0.2.2.2.2.2.1 x0.2.2.2.2.2.2 /\ U.fB b k8 x0.1 x0.2.1 x0.2.2.1 x0.2.2.2.1 x0.2.2.2.2.1 x0.2.2.2.2.2.1 x0.2.2.2.2.2.2 x0.1 x0.2.1 x0.2.2.1 x0.2.2.2.1 x0.2.2.2.2.1 x0.2.2.2.2.2.1
 x0.2.2.2.2.2.2) /\ ∀ (x : (List Int × List Int × Int × Int) × List Int × Bool × List Int × Bool × List Int × Int), U.fB b k8 x0.1 x0.2.1 x0.2.2.1 x0.2.2.2.1 x0.2.2.2.2.1 x0.2.2.2.2.2.1 x0.2.2.2.2.2.2 x.1 x.2.1 x.2.2.1 x.2.2.2.1 x.2.2.2.2.1 x.2.2.2.2.2.1 x.2.2.2.2.2.2 -> bif decide (x.2.2.2.2.2.2 >= (0 : Int)) then (0 : Int) <= x.2.2.2.2.2.2 /\ x.2.2.2.2.2.2 < (↑(U.fieldsOf b).length :
 Int) /\ bif U.cu ((U.fieldsOf b).getD x.2.2.2.2.2.2.toNat ([], [], (0 : Int), (0 : Int))).1 x.1.1 then (0 : Int) <= x.2.2.2.2.2.2 /\ x.2.2.2.2.2.2 < (↑(U.fieldsOf b).length : Int) /\ ∃ (y : (List Int × List Int × Int × Int) × List Int × Bool × List Int × Bool × List Int × Int), U.bW b k8 x.1 x.2.1 x.2.2.1 x.2.2.2.1 x.2.2.2.2.1 ((U.fieldsOf b).getD x.2.2.2.2.2.2.toNat ([], [], (0 :
 Int), (0 : Int))).2.1 (IntKind.i64.wrap (x.2.2.2.2.2.2.sub (1 : Int))) = U.bW b k8 y.1 y.2.1 y.2.2.1 y.2.2.2.1 y.2.2.2.2.1 y.2.2.2.2.2.1 y.2.2.2.2.2.2 /\ U.fB b k8 x0.1 x0.2.1 x0.2.2.1 x0.2.2.2.1 x0.2.2.2.2.1 x0.2.2.2.2.2.1 x0.2.2.2.2.2.2 y.1 y.2.1 y.2.2.1 y.2.2.2.1 y.2.2.2.2.1 y.2.2.2.2.2.1 y.2.2.2.2.2.2 /\ (y.2.2.2.2.2.2.add (1 : Int)).toNat < (x.2.2.2.2.2.2.add
 (1 : Int)).toNat else ∃ (y : (List Int × List Int × Int × Int) × List Int × Bool × List Int × Bool × List Int × Int), U.bW b k8 x.1 x.2.1 x.2.2.1 x.2.2.2.1 x.2.2.2.2.1 x.2.2.2.2.2.1 (IntKind.i64.wrap (x.2.2.2.2.2.2.sub (1 : Int))) = U.bW b k8 y.1 y.2.1 y.2.2.1 y.2.2.2.1 y.2.2.2.2.1 y.2.2.2.2.2.1 y.2.2.2.2.2.2 /\ U.fB b k8 x0.1 x0.2.1 x0.2.2.1
 x0.2.2.2.1 x0.2.2.2.2.1 x0.2.2.2.2.2.1 x0.2.2.2.2.2.2 y.1 y.2.1 y.2.2.1 y.2.2.2.1 y.2.2.2.2.1 y.2.2.2.2.2.1 y.2.2.2.2.2.2 /\ (y.2.2.2.2.2.2.add (1 : Int)).toNat < (x.2.2.2.2.2.2.add (1 : Int)).toNat else (bif bif bif x.2.2.1 then x.2.2.2.2.1 else false then x.2.1.beq x.2.2.2.1 else false then x.2.1.beq x.2.2.2.2.2.1 else false) = true /\ True
end Go.Proofs.YtggccomebfpfpaaDoor
set_option linter.unusedSimpArgs false
set_option linter.unusedVariables false
set_option maxRecDepth 100000
namespace Go.Proofs.YtggccomebfpfpaaDoor
open Go.Vc
open Go.Vc.T
theorem wo (b : List Int) : ∀ (a c : List Field) (p : Int), U.sides b p (a ++ c) ↔ U.sides b p a /\ U.sides b (U.jE p a) c
 | [], c, p => by simp [U.sides, U.jE]
 | f :: a, c, p => by
   have ih := wo b a c f.2.2.2
   simp only [List.cons_append, U.sides, U.jE, ih, and_assoc]
theorem EO : ∀ (a c : List Field) (p : Int), U.jE p (a ++ c) = U.jE (U.jE p a) c
 | [], _, _ => rfl
 | _ :: a, c, _ => EO a c _
theorem GX (b : List Int) : ∀ (fs : List Field) (p e : Int) (v : List Int), fs ≠ [] -> U.sides b p fs -> U.jE p fs <= e -> e <= b.length -> U.sides b p (U.setLast fs v e) /\ U.jE p (U.setLast fs v e) = e
 | [], _, _, _, h, _, _, _ => absurd rfl h
 | [f], p, e, v, _, ⟨h1, h2, h3, h4, h5, h6, _⟩, hE, hb => by
   have hE : f.2.2.2 <= e := hE
   exact ⟨⟨h1, h2, by show p + (f.1.length : Int) < e; omega, hb, h5, h6, trivial⟩, rfl⟩
 | f :: g :: r, p, e, v, _, ⟨h1, h2, h3, h4, h5, h6, h7⟩, hE, hb => by
   have ih := GX b (g :: r) f.2.2.2 e v (by simp) h7 hE hb
   have hs : U.setLast (f :: g :: r) v e = f :: U.setLast (g :: r) v e := rfl
   rw [hs]
   exact ⟨⟨h1, h2, h3, h4, h5, h6, ih.1⟩, ih.2⟩
theorem Og (fs : List Field) (n v w : List Int) (p q e : Int) : U.setLast (fs ++ [(n, w, p, q)]) v e = fs ++ [(n, v, p, e)] := by
 unfold U.setLast
 have hl : (fs ++ [((n, w, p, q) : Field)]).length - 1 = fs.length := by simp
 rw [hl, getD_at (by simp), List.set_append_right _ _ (Nat.le_refl _)]
 simp
theorem D9 (m : List Int) (c : Int) : ∃ k, U.dh m [c] = m.take k := by
 rw [S9]; cases U.dO m [c]
 ·exact ⟨m.length, (List.take_length).symm⟩
 ·exact ⟨_, rfl⟩
theorem Sv (l : List Int) : U.says l = l.take (U.says l).length := by
 have key : ∃ k, U.says l = l.take k := by
  unfold U.says
  cases U.dO l [10]
  ·exact ⟨l.length, (List.take_length).symm⟩
  ·obtain ⟨k, hk⟩ := D9 l 10
   obtain ⟨j, hj⟩ := D9 (U.dh l [10]) 13
   show ∃ k, U.dh (U.dh l [10]) [13] = _
   rw [hj, hk, List.take_take]; exact ⟨_, rfl⟩
 obtain ⟨k, hk⟩ := key
 rw [hk, List.length_take]
 by_cases h : k <= l.length
 ·rw [Nat.min_eq_left h]
 ·rw [Nat.min_eq_right (by omega), List.take_length, List.take_of_length_le (by omega)]
theorem MW : ∀ (l : List Int) (c : Int), 0 <= aF l c -> l.getD (aF l c).toNat 0 = c
 | [], c, h => by simp [aF] at h
 | x :: l, c, h => by
   rw [EL] at h ⊢
   by_cases hx : x = c
   ·rw [if_pos hx]; exact hx
   ·rw [if_neg hx] at h ⊢
    have hb := dK l c
    by_cases hn : aF l c = -1
    ·rw [if_pos hn] at h; omega
    ·rw [if_neg hn] at h ⊢
     have ih := MW l c (by omega)
     rw [show (aF l c + 1).toNat = (aF l c).toNat + 1 by omega]
     exact ih
theorem getD_take {α : Type} {l : List α} {k n : Nat} {d : α} (h : k < n) : (l.take n).getD k d = l.getD k d := by
 simp [List.getD_eq_getElem?_getD, List.getElem?_take, h]
theorem getD_drop {α : Type} {l : List α} {k n : Nat} {d : α} : (l.drop n).getD k d = l.getD (n + k) d := by
 simp [List.getD_eq_getElem?_getD, List.getElem?_drop]
theorem EP (b : List Int) : ∀ (n : Nat) (s : U.HS), 0 <= s.2.2 -> s.2.2 <= b.length -> b.length - s.2.2.toNat <= n -> U.sides b 0 s.1 -> U.jE 0 s.1 = s.2.2 -> ∀ R, R = U.cO s (U.ah 10 (b.drop s.2.2.toNat)) ->
 U.sides b 0 R.1.1 /\ U.jE 0 R.1.1 = R.1.2.2
 | 0, s, h0, h1, hn, hs, he, R, hR => by
   rw [CP s (by omega)] at hR
   subst hR
   exact ⟨hs, he⟩
 | n + 1, (fs, v, en), h0, h1, hn, hsd, he, R, hR => by
   dsimp only at h0 h1 hn hR hsd he
   by_cases hi : en < b.length
   ·obtain ⟨q1, q2, r, hr, hrr⟩ := BF h0 hi
    have hll : (List.take ((U.endOf b en).toNat.sub en.toNat) (List.drop en.toNat b)).length = (U.endOf b en).toNat - en.toNat := by rw [List.length_take, List.length_drop, eF]; omega
    rw [hr] at hR
    obtain ⟨l, hl⟩ : ∃ l, l = List.take ((U.endOf b en).toNat.sub en.toNat) (List.drop en.toNat b) := ⟨_, rfl⟩
    rw [<- hl] at hR hll
    have hq : U.endOf b en = en + l.length := by omega
    have hne : ¬ l = [] := by intro h; rw [h] at hll; simp at hll; omega
    by_cases hs : U.says l = []
    ·rw [Ik _ _ hne hs] at hR
     subst hR
     exact ⟨hsd, he⟩
    ·cases hm : U.more (fs, v, en) l with
     | true =>
       rw [Il fs v en _ hne hs hm, hrr, hq] at hR
       have hfs : fs ≠ [] := by
        unfold U.more at hm
        simp only [Bool.and_eq_true, decide_eq_true_eq] at hm
        exact hm.2
       have hN := GX b fs 0 (en + l.length) (U.trimB (v ++ U.says l)) hfs hsd (by omega) (by omega)
       exact EP b n (_, _, en + l.length) (by show 0 <= en + (l.length : Int); omega) (by show en + (l.length : Int) <= _; omega) (by show b.length - (en + (l.length : Int)).toNat <= n; omega) hN.1 hN.2 R hR
     | false =>
       cases hbg : U.begins (U.says l) with
       | true =>
         rw [EN fs v en _ hne hs hm hbg, hrr, hq, Og] at hR
         obtain ⟨_, c2, c3, c4, _⟩ := Q5 hbg
         have hsl := MG l
         have hpre : U.says l = (b.drop en.toNat).take (U.says l).length := by
          have h := Sv l
          rw [hl, List.take_take, <- hl] at h
          rwa [Nat.min_eq_left (by rw [eF]; omega)] at h
         have hA : (U.aB (U.says l) 58).length = (aF (U.says l) 58).toNat := by rw [c4, List.length_take]; omega
         have hN : U.sides b 0 (fs ++ [(U.aB (U.says l) 58, U.trimB (U.bH (U.says l) 58), en, en + l.length)]) /\ U.jE 0 (fs ++ [(U.aB (U.says l) 58, U.trimB (U.bH (U.says l) 58), en, en + l.length)]) = en + l.length := by
          rw [wo, EO, he]
          refine ⟨⟨hsd, rfl, ?_, ?_, ?_, ?_, ?_, trivial⟩, rfl⟩
          ·intro h
           have h := congrArg List.length (show U.aB (U.says l) 58 = [] from h)
           rw [hA] at h; simp at h; omega
          ·show en + ((U.aB (U.says l) 58).length : Int) < en + l.length; omega
          ·show en + (l.length : Int) <= _; omega
          ·show (b.drop en.toNat).take (U.aB (U.says l) 58).length = U.aB (U.says l) 58
           rw [hA, c4]
           generalize hI : (aF (U.says l) 58).toNat = I
           rw [hpre, List.take_take, Nat.min_eq_left (by omega)]
          ·show b.getD (en + ((U.aB (U.says l) 58).length : Int)).toNat 0 = 58
           have h := MW (U.says l) 58 (by omega)
           rw [hpre, getD_take (by rw [<- hpre]; omega), <- hpre, getD_drop] at h
           rw [hA, show (en + (((aF (U.says l) 58).toNat : Nat) : Int)).toNat = en.toNat + (aF (U.says l) 58).toNat by omega]; exact h
         exact EP b n (_, _, en + l.length) (by show 0 <= en + (l.length : Int); omega) (by show en + (l.length : Int) <= _; omega) (by show b.length - (en + (l.length : Int)).toNat <= n; omega) hN.1 hN.2 R hR
       | false =>
         rw [Io fs v en _ hne hs hm hbg] at hR
         subst hR
         exact ⟨hsd, he⟩
   ·rw [CP _ (by omega)] at hR
    subst hR
    exact ⟨hsd, he⟩
theorem CQ (b : List Int) : ∀ (fs : List Field) (p : Int), U.sides b p fs -> p <= U.jE p fs /\ (p <= b.length -> U.jE p fs <= b.length)
 | [], p, _ => ⟨Int.le_refl p, id⟩
 | f :: r, p, ⟨h1, h2, h3, h4, h5, h6, h7⟩ => by
   have ih := CQ b r f.2.2.2 h7
   exact ⟨by show p <= U.jE f.2.2.2 r; omega, fun _ => ih.2 h4⟩
theorem wZ (b : List Int) : U.sides b 0 (U.fieldsOf b) /\ 0 <= U.jE 0 (U.fieldsOf b) /\ U.jE 0 (U.fieldsOf b) <= U.textOf b /\ U.textOf b <= b.length := by
 have h := EP b b.length ([], [], 0) (Int.le_refl 0) (by show (0 : Int) <= _; omega) (Nat.sub_le _ _) trivial rfl (U.hread b) rfl
 have ht := OA b
 have hsp : (U.hread b).1.1 = U.fieldsOf b ++ (U.hread b).1.1.drop 40 := (List.take_append_drop 40 _).symm
 rw [hsp, wo, EO] at h
 have h1 := CQ b _ _ h.1.1
 have h2 := CQ b _ _ h.1.2
 exact ⟨h.1.1, h1.1, by omega, ht.2⟩
theorem OB {b : List Int} {l : List Field} {i : Nat} (hi : i < l.length) (hs : U.sides b 0 l) : 0 <= l[i].2.2.1 /\ l[i].2.2.1 <= l[i].2.2.2 /\ l[i].2.2.2 <= b.length /\ (b.drop l[i].2.2.1.toNat).take l[i].1.length = l[i].1 := by
 have hsp : l = l.take i ++ l[i] :: l.drop (i + 1) := by rw [<- List.drop_eq_getElem_cons hi, List.take_append_drop]
 rw [hsp, wo] at hs
 have h1 := CQ b _ _ hs.1
 obtain ⟨h2, h3, h4, h5, h6, h7, h8⟩ := hs.2
 exact ⟨by omega, by omega, h5, by rw [h2]; exact h6⟩
theorem TV {b : List Int} {names : List (List Int)} {no : Bool} {l : List Field} {i : Int} (h0 : 0 <= i) (hi : i < l.length) : U.oZ b names no (l.drop i.toNat) = cond (U.picks names no l[i.toNat]) (U.jM b l[i.toNat]) [] ++ U.oZ b names no (l.drop (i + 1).toNat) := by
 rw [drop_at h0 hi]; rfl
theorem Sz {b : List Int} {f : Field} (h0 : 0 <= f.2.2.1) (h1 : f.2.2.1 <= f.2.2.2) (h2 : f.2.2.2 <= b.length) : ((U.jM b f).length : Int) = f.2.2.2 - f.2.2.1 := by
 unfold U.jM; rw [List.length_take, List.length_drop]; omega
theorem MX (b : List Int) (names : List (List Int)) (no : Bool) : ∀ (fs : List Field) (p : Int), 0 <= p -> U.sides b p fs ->
 ((U.oZ b names no fs).length : Int) + (U.oZ b names (!no) fs).length = U.jE p fs - p
 | [], p, _, _ => by show (0 : Int) + 0 = p - p; omega
 | f :: r, p, h0, ⟨h1, h2, h3, h4, h5, h6, h7⟩ => by
   have ih := MX b names no r f.2.2.2 (by omega) h7
   have hp := Sz (b := b) (f := f) (by omega) (by omega) h4
   have hA : ∀ no, U.oZ b names no (f :: r) = cond (U.picks names no f) (U.jM b f) [] ++ U.oZ b names no r := fun _ => rfl
   have hq : U.picks names (!no) f = !(U.picks names no f) := by unfold U.picks; cases names.any (U.cu f.1) <;> cases no <;> rfl
   rw [hA, hA, hq]
   show _ = U.jE f.2.2.2 r - p
   cases U.picks names no f
   ·show (((([] : List Int) ++ _).length : Nat) : Int) + (((U.jM b f ++ _).length : Nat) : Int) = _
    rw [List.nil_append, List.length_append]; push_cast; omega
   ·show (((U.jM b f ++ _).length : Nat) : Int) + (((([] : List Int) ++ _).length : Nat) : Int) = _
    rw [List.nil_append, List.length_append]; push_cast; omega
theorem TW (b : List Int) (names : List (List Int)) (no : Bool) : (U.oZ b names no (U.fieldsOf b)).length <= b.length := by
 have h := wZ b
 have h1 := MX b names no _ 0 (Int.le_refl 0) h.1
 omega
theorem Oh (b : List Int) (names : List (List Int)) (no : Bool) (hl : b.length <= maxLen) (hn : names.length <= maxLen) (h : b.length <= 4000) : wY b names no := by
 unfold wY
 rw [maxLen_eq] at hn
 have hsd := (wZ b).1
 have hbd := TW b names no
 have hfl : (U.fieldsOf b).length <= 40 := List.length_take_le _ _
 refine ⟨by omega, ([], 0), ⟨rfl, ⟨Int.le_refl 0, by show (0 : Int) <= _; omega⟩, rfl⟩, ?_⟩
 rintro ⟨o, i⟩ ⟨⟨i0, i1⟩, hI⟩
 dsimp only at i0 i1 hI ⊢
 rw [cond_prop]
 refine ⟨fun hi => ?_, fun hi => ?_⟩
 ·have hi : i < (U.fieldsOf b).length := of_decide_eq_true hi
  rw [TV i0 hi] at hI
  rw [getD_at (by omega : i.toNat < (U.fieldsOf b).length)]
  obtain ⟨s1, s2, s3, _⟩ := OB (by omega : i.toNat < (U.fieldsOf b).length) hsd
  generalize (U.fieldsOf b)[i.toNat] = fd at hI s1 s2 s3 ⊢
  have hol : o.length + (cond (U.picks names no fd) (U.jM b fd) []).length <= b.length := by
   have h := congrArg List.length hI
   rw [List.length_append, List.length_append] at h; omega
  have hcut : List.take (fd.2.2.2.toNat.sub fd.2.2.1.toNat) (List.drop fd.2.2.1.toNat b) = U.jM b fd := rfl
  refine ⟨i0, hi, (o, fd, 0), ⟨rfl, rfl, rfl, ⟨Int.le_refl 0, by show (0 : Int) <= _; omega⟩, rfl⟩, ?_⟩
  rintro ⟨o', fd', j⟩ ⟨he1, he2, ⟨j0, j1⟩, hJ⟩
  dsimp only at he1 he2 j0 j1 hJ ⊢
  have he1 := he1.symm; have he2 := he2.symm
  subst he1 he2
  rw [hcut]
  have hend : ∀ (a : Bool), names.any (U.cu fd.1) = a -> bif !decide (a = no) then 0 <= fd.2.2.1 /\ fd.2.2.1 <= fd.2.2.2 /\ fd.2.2.2 <= (b.length : Int) /\ (o.length.add (U.jM b fd).length).mul 1 <= 140737488355328 /\ o.length.add (U.jM b fd).length <= maxLen /\ ∃ (y : List Int × Int), U.bn b names no (o.append (U.jM b fd)) (IntKind.i64.wrap (i.add 1)) = U.bn b names no y.1 y.2 /\ U.dZ b names no y.1 y.2 /\ (U.fieldsOf b).length.sub y.2.toNat < (U.fieldsOf b).length.sub i.toNat
   else ∃ (y : List Int × Int), U.bn b names no o (IntKind.i64.wrap (i.add 1)) = U.bn b names no y.1 y.2 /\ U.dZ b names no y.1 y.2 /\ (U.fieldsOf b).length.sub y.2.toNat < (U.fieldsOf b).length.sub i.toNat := by
   intro a ha
   have hp : U.picks names no fd = !decide (a = no) := by unfold U.picks; rw [ha]
   rw [hp] at hI hol
   rw [je (by omega) (by omega)]
   cases hc : !decide (a = no) with
   | true =>
     rw [hc] at hI hol
     have hol : o.length + (U.jM b fd).length <= b.length := hol
     refine ⟨s1, s2, s3, by simp only [jd, xR]; omega, by simp only [jd, maxLen_eq]; omega, ⟨(o ++ U.jM b fd, i + 1), rfl, ⟨⟨by show 0 <= i + 1; omega, by show i + 1 <= _; omega⟩, ?_⟩, by simp only [eF]; omega⟩⟩
     rw [List.append_assoc]; exact hI
   | false =>
     rw [hc] at hI
     exact ⟨(o, i + 1), rfl, ⟨⟨by show 0 <= i + 1; omega, by show i + 1 <= _; omega⟩, hI⟩, by simp only [eF]; omega⟩
  rw [cond_prop]
  refine ⟨fun hj => ?_, fun hj => ?_⟩
  ·have hj : j < names.length := of_decide_eq_true hj
   rw [QU j0 hj] at hJ
   rw [getD_at (by omega : j.toNat < names.length)]
   refine ⟨j0, hj, ?_⟩
   cases hs : U.cu fd.1 names[j.toNat] with
   | true =>
     rw [hs, Bool.true_or] at hJ
     have := hend true hJ.symm
     rw [decide_eq_true (by omega : j >= 0)]
     exact this
   | false =>
     rw [hs, Bool.false_or] at hJ
     exact ⟨(o, fd, j + 1), by rw [je (by omega) (by omega)], ⟨rfl, rfl, ⟨by show 0 <= j + 1; omega, by show j + 1 <= _; omega⟩, hJ⟩, by simp only [eF]; omega⟩
  ·have hj : ¬ j < names.length := of_decide_eq_false hj
   rw [drop_end (by omega)] at hJ
   exact hend false hJ.symm
 ·have hi : ¬ i < (U.fieldsOf b).length := of_decide_eq_false hi
  rw [drop_end (by omega)] at hI
  have hI : o ++ [] = _ := hI
  rw [List.append_nil] at hI
  have := congrArg List.length hI
  refine ⟨by simp only [jd, xR]; omega, by simp only [jd, maxLen_eq]; omega, ?_, trivial⟩
  rw [hI]; rfl
theorem JC : qI := by
 unfold qI
 refine ⟨by omega, by omega, fun _ => by omega, fun _ => by omega, ?_⟩
 rw [cond_prop]
 exact ⟨fun _ => ⟨by omega, by decide +kernel, trivial⟩, fun h => absurd h (by decide +kernel)⟩
theorem Rf (l : List Int) : l.beq l = true := beq_self_eq_true l
theorem SA {l : List Field} {m n : List Int} (h : m.map U.small = n.map U.small) : U.dM l m = U.dM l n := by
 induction l with
 | nil => rfl
 | cons f r ih =>
   have hs : U.cu f.1 m = U.cu f.1 n := by unfold U.cu; rw [h]
   show cond _ _ _ = cond _ _ _
   rw [hs, ih]
theorem Jb {n : List Int} : ∀ (l : List Field), (∃ f ∈ l, U.cu f.1 n = true) -> (U.dM l n).2 = true
 | [], ⟨_, h, _⟩ => by cases h
 | g :: r, ⟨f, h, hs⟩ => by
   show (cond (U.cu g.1 n) (g.2.1, true) (U.dM r n)).2 = true
   cases hg : U.cu g.1 n with
   | true => rfl
   | false =>
     rcases List.mem_cons.1 h with rfl | h
     ·rw [hs] at hg; cases hg
     ·exact Jb r ⟨f, h, hs⟩
theorem Rh {c : Int} (h : Byte c) (h1 : 97 <= orK .u8 c 32) (h2 : orK .u8 c 32 <= 122) : Byte (Es .u8 c 32) /\ U.small (Es .u8 c 32) = U.small c := by
 have key : ∀ n : Nat, n < 256 -> 97 <= orK .u8 (n : Int) 32 -> orK .u8 (n : Int) 32 <= 122 -> (0 <= Es .u8 (n : Int) 32 /\ Es .u8 (n : Int) 32 <= 255) /\ U.small (Es .u8 (n : Int) 32) = U.small (n : Int) := by decide +kernel
 obtain ⟨n, rfl⟩ : ∃ n : Nat, c = n := ⟨c.toNat, by have := h.1; omega⟩
 exact key n (by have := h.2; omega) h1 h2
theorem map_set {s : List Int} {i : Nat} {x : Int} (hi : i < s.length) (h : U.small x = U.small s[i]) : (s.set i x).map U.small = s.map U.small := by
 rw [List.map_set, h]
 apply List.ext_getElem
 ·simp
 ·intro k h1 h2
  rw [List.getElem_set]
  split
  ·subst_vars; rw [List.getElem_map]
  ·rfl
theorem mem_set {s : List Int} {i : Nat} {x : Int} {P : Int -> Prop} (h : ∀ y ∈ s, P y) (hx : P x) : ∀ y ∈ s.set i x, P y := fun y hy => by
 rcases List.mem_or_eq_of_mem_set hy with h' | rfl
 ·exact h y h'
 ·exact hx
theorem Df (b : List Int) (k8 : Int) (hb : ∀ x ∈ b, Valid (.int .u8) x) (hk : Valid (.int .u8) k8) : kW b k8 := by
 unfold kW
 rw [cond_prop]
 refine ⟨fun _ => ⟨rfl, trivial⟩, fun h => ?_⟩
 have h := of_decide_eq_false h
 have hsd := wZ b
 have hfl : (U.fieldsOf b).length <= 40 := List.length_take_le _ _
 refine ⟨by omega, ?_⟩
 rw [cond_prop]
 refine ⟨fun hn => ?_, fun hn => ?_⟩
 ·have hn : U.fieldsOf b = [] := len0.1 (of_decide_eq_true hn)
  rw [hn]; exact ⟨by omega, rfl, trivial⟩
 have hn := of_decide_eq_false hn
 have hk := T.vU8 hk
 have hkw : IntKind.i64.wrap k8 = k8 := LQ (by omega) (by omega)
 have hpos : (0 : Int) < (U.fieldsOf b).length := by omega
 have ht0 : 0 <= k8.tmod ((U.fieldsOf b).length : Int) := Int.tmod_nonneg _ hk.1
 have ht1 : k8.tmod ((U.fieldsOf b).length : Int) < ((U.fieldsOf b).length : Int) := Int.tmod_lt_of_pos _ hpos
 rw [hkw]
 generalize k8.tmod ((U.fieldsOf b).length : Int) = k at ht0 ht1 ⊢
 have hkl : k.toNat < (U.fieldsOf b).length := by omega
 rw [getD_at hkl]
 obtain ⟨s1, s2, s3, s4⟩ := OB hkl hsd.1
 have hmem : (U.fieldsOf b)[k.toNat] ∈ U.fieldsOf b := List.getElem_mem hkl
 generalize (U.fieldsOf b)[k.toNat] = fd at s1 s2 s3 s4 hmem ⊢
 have hby : ∀ x ∈ fd.1, Byte x := fun x hx => by
  rw [<- s4] at hx
  exact T.vU8 (hb x (List.mem_of_mem_drop (List.mem_of_mem_take hx)))
 have hfd : fd.1.length <= b.length := by rw [<- s4, List.length_take, List.length_drop]; omega
 refine ⟨hn, ht0, ht1, (fd, fd.1, 0), ⟨rfl, rfl, ⟨Int.le_refl 0, by show (0 : Int) <= _; omega⟩, hby, rfl⟩, ?_⟩
 rintro ⟨fd', s, i⟩ ⟨he, ⟨i0, i1⟩, hsb, hsm⟩
 dsimp only at he i0 i1 hsb hsm ⊢
 have he := he.symm; subst he
 have hsl : s.length = fd.1.length := by have h := congrArg List.length hsm; simpa using h
 rw [cond_prop]
 refine ⟨fun hi => ?_, fun hi => ?_⟩
 ·have hi : i < s.length := of_decide_eq_true hi
  have hin : i.toNat < s.length := by omega
  have hm : s[i.toNat] ∈ s := List.getElem_mem hin
  rw [getD_at hin]
  refine ⟨i0, hi, hin, fun _ => i0, fun _ => hi, fun _ => hin, ?_⟩
  rw [uz, Uw, TJ]
  cases hc : (decide (orK .u8 s[i.toNat] 32 >= 97) && decide (orK .u8 s[i.toNat] 32 <= 122)) with
  | true =>
    simp only [Bool.and_eq_true, decide_eq_true_eq] at hc
    obtain ⟨x1, x2⟩ := Rh (hsb _ hm) hc.1 hc.2
    exact ⟨i0, hi, hin, i0, hi, hin, (fd, s.set i.toNat (Es .u8 s[i.toNat] 32), i + 1), by rw [je (by omega) (by omega)], ⟨rfl, ⟨by show 0 <= i + 1; omega, by show i + 1 <= ((s.set _ _).length : Int); rw [List.length_set]; omega⟩, mem_set hsb x1, by rw [map_set hin x2]; exact hsm⟩, by simp only [eF, List.length_set]; omega⟩
  | false =>
    exact ⟨(fd, s, i + 1), by rw [je (by omega) (by omega)], ⟨rfl, ⟨by show 0 <= i + 1; omega, by show i + 1 <= (s.length : Int); omega⟩, hsb, hsm⟩, by simp only [eF]; omega⟩
 ·have hf := Jb (n := fd.1) (U.fieldsOf b) ⟨fd, hmem, decide_eq_true rfl⟩
  rw [SA hsm]
  have hw : IntKind.i64.wrap (((U.fieldsOf b).length : Int).sub 1) = ((U.fieldsOf b).length : Int) - 1 := oW (by omega) (by omega)
  rw [hw]
  refine ⟨by omega, by omega, (fd, (U.dM (U.fieldsOf b) fd.1).1, (U.dM (U.fieldsOf b) fd.1).2, (U.dM (U.fieldsOf b) fd.1).1, (U.dM (U.fieldsOf b) fd.1).2, [], ((U.fieldsOf b).length : Int) - 1), ⟨rfl, rfl, rfl, rfl, rfl, rfl, by show -1 <= ((U.fieldsOf b).length : Int) - 1; omega, by show ((U.fieldsOf b).length : Int) - 1 < _; omega, ?_⟩, ?_⟩
  ·show _ = U.uY (List.drop (((U.fieldsOf b).length : Int) - 1 + 1).toNat _) _
   rw [drop_end (by omega)]; rfl
  rintro ⟨fd', s', u, t, v, fi, j⟩ ⟨he1, he2, he3, he4, he5, j0, j1, hj⟩
  dsimp only at he1 he2 he3 he4 he5 j0 j1 hj ⊢
  subst he1 he2 he3 he4 he5
  rw [cond_prop]
  refine ⟨fun hc => ?_, fun hc => ?_⟩
  ·have hc : j >= 0 := of_decide_eq_true hc
   have hjn : j.toNat < (U.fieldsOf b).length := by omega
   have hfi : U.uY ((U.fieldsOf b).drop j.toNat) fd'.1 = (cond (U.cu (U.fieldsOf b)[j.toNat].1 fd'.1) ((U.fieldsOf b)[j.toNat].2.1, true) (U.dM ((U.fieldsOf b).drop (j + 1).toNat) fd'.1)).1 := by
    unfold U.uY; rw [drop_at hc j1]; rfl
   rw [getD_at hjn]
   refine ⟨hc, j1, ?_⟩
   have hw : IntKind.i64.wrap (j.sub 1) = j - 1 := oW (by omega) (by omega)
   rw [hw]
   cases hs : U.cu (U.fieldsOf b)[j.toNat].1 fd'.1 with
   | true =>
     rw [hs] at hfi
     refine ⟨hc, j1, (_, _, _, _, _, _, j - 1), rfl, ⟨rfl, rfl, rfl, rfl, rfl, by show -1 <= j - 1; omega, by show j - 1 < _; omega, ?_⟩, by simp only [Ic]; omega⟩
     show _ = U.uY (List.drop (j - 1 + 1).toNat _) _
     rw [Int.sub_add_cancel, hfi]; rfl
   | false =>
     rw [hs] at hfi
     refine ⟨(_, _, _, _, _, _, j - 1), rfl, ⟨rfl, rfl, rfl, rfl, rfl, by show -1 <= j - 1; omega, by show j - 1 < _; omega, ?_⟩, by simp only [Ic]; omega⟩
     show _ = U.uY (List.drop (j - 1 + 1).toNat _) _
     rw [Int.sub_add_cancel, hfi, hj]; rfl
  ·have hc : ¬ j >= 0 := of_decide_eq_false hc
   have hj0 : (j + 1).toNat = 0 := by omega
   rw [hj0, List.drop_zero] at hj
   rw [hj, hf]
   refine ⟨?_, trivial⟩
   unfold U.uY
   simp only [Rf, cond_true]
end Go.Proofs.YtggccomebfpfpaaDoor
set_option linter.unusedSimpArgs false
set_option maxRecDepth 100000
set_option linter.unusedVariables false
namespace Go.Proofs.YtggccomebfpfpaaDoor
open Go.Vc
theorem Qm (x : aO [aA, JW, .bool]) : dR Tryd.prog (bM pz) (GV x.1 x.2.1 x.2.2) 19 (dF [aA, JW, .bool] x) [] (rQ x.1 x.2.1 x.2.2) = wY x.1 x.2.1 x.2.2 := by kernel_rfl
theorem Qn : Pok 19 [aA, JW, .bool] (fun x => rQ x.1 x.2.1 x.2.2) := by
 refine pk (L := fun x => GV x.1 x.2.1 x.2.2) (l := pz) BI (fun _ => rfl) ?_
 intro x hv hp
 rw [Qm]
 exact Oh x.1 x.2.1 x.2.2 hv.1.2 hv.2.1.2 (hp (List.length x.1 <= 4000) (by simp [rQ]))
theorem Qo : dw Tryd.prog gl 19 GU := Qn
theorem Ea : bP rU := .cons Qo BI
theorem MZ (x : aO []) : dR Tryd.prog (bM rU) (BK ) 7 (dF [] x) [] (uZ ) = qI  := by kernel_rfl
theorem Na : Pok 7 [] (fun x => uZ ) := by
 refine pk (L := fun x => BK ) (l := rU) Ea (fun _ => rfl) ?_
 intro x hv hp
 rw [MZ]
 exact JC
theorem Nb : dw Tryd.prog gl 7 BJ := Na
theorem JD : bP vg := .cons Nb Ea
end Go.Proofs.YtggccomebfpfpaaDoor
