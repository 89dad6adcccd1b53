/- What functions of this seat compute, in plain Lean. -/
import Derived.Test.YtdobgidhhpdihaaDoorWB
set_option linter.unusedVariables false
set_option linter.unusedSimpArgs false
set_option maxRecDepth 100000
namespace Go.Proofs.YtdobgidhhpdihaaDoor
open Go.Vc
namespace U
def upB (x : Int) : Int := cond (decide (97 <= x) && decide (x <= 122)) (x - 32) x
end U
namespace U
def dS (a e b f : Int) (s : List Int) (c : List Int) (i : Int) : St2 := ⟨⟨U.n 1 ++ [sS s] ++ U.n 5 ++ [sI a] ++ [sI e] ++ [sI b] ++ [sI f] ++ [own 0] ++ [sI i] ++ U.n 96, [], [(0, .row 5 (.int .u8) true false c)]⟩, 1, []⟩
def dY (a e b f : Int) (s : List Int)  (c : List Int) (i : Int) : Prop := at_ c i /\ c.length = s.length /\ c = (s.take i.toNat).map upB ++ s.drop i.toNat
end U
def yG (a e b f : Int) (s : List Int) : Vc.Loop := ⟨{ keep := [1, 7, 8, 9, 10, 11, 12] }, List Int × Int, fun x => U.dS a e b f s x.1 x.2, fun x0 x => U.dY a e b f s  x.1 x.2, fun x => x.1.length - x.2.toNat, fun p => ∀ x, p x, fun _ h => h⟩
def qZ  : Done := ⟨[], .one (.bool true), [], []⟩
def yH : Vc.Sum := .pure [] false fun _ => qZ
def yI  : Nat -> List V -> Nat -> Option Vc.Loop := wU
def ru : List (Nat × Ent) := (6, .sum yH) :: nZ
def rY (t3 : List Int) (s : List Int) : Nat -> List V -> Nat -> Option Vc.Loop := fun f v k => cond (Nat.beq f 3 && Nat.beq k 8) (some (yG (U.aA ((t3.getD 0 0).tmod 32) ((t3.getD 1 0).tmod 3) ((t3.getD 2 0).tmod 32)).1 (U.aA ((t3.getD 0 0).tmod 32) ((t3.getD 1 0).tmod 3) ((t3.getD 2 0).tmod 32)).2 (U.aA (U.aA ((t3.getD 0 0).tmod 32) ((t3.getD 1 0).tmod 3) ((t3.getD 2 0).tmod 32)).1 ((t3.getD 1 0).tmod 3) ((t3.getD 2 0).tmod 32)).1 (U.aA (U.aA ((t3.getD 0 0).tmod 32) ((t3.getD 1 0).tmod 3) ((t3.getD 2 0).tmod 32)).1 ((t3.getD 1 0).tmod 3) ((t3.getD 2 0).tmod 32)).2 s)) <| none
end Go.Proofs.YtdobgidhhpdihaaDoor
set_option maxRecDepth 100000
set_option linter.unusedVariables false
namespace Go.Proofs.YtdobgidhhpdihaaDoor
open Go.Vc
def o8 : Prop := (bif bif (U.Hl (9 : Int)).beq [(40 : Int), (92 : Int), (68 : Int), (101 : Int), (108 : Int), (101 : Int), (116 : Int), (101 : Int), (100 : Int), (32 : Int), (92 : Int), (83 : Int), (101 : Int), (101 : Int), (110 : Int), (41 : Int)] then decide ((U.kK [(92 : Int), (115 : Int), (101 : Int), (101 : Int), (110 : Int)]).1 = (1 : Int)) else false then decide ((U.kK
 [(92 : Int), (115 : Int), (101 : Int), (101 : Int), (110 : Int)]).2 = (0 : Int)) else false) = true /\ True
def lD (t3 : List Int) (s : List Int) : Prop := (0 : Int) <= (1 : Int) /\ (1 : Int) < (↑(3 : Nat) : Int) /\ (1 : Nat) < (3 : Nat) /\ (3 : Int) ≠ (0 : Int) /\ (0 : Int) <= (2 : Int) /\ (2 : Int) < (↑(3 : Nat) : Int) /\ (2 : Nat) < (3 : Nat) /\ (32 : Int) ≠ (0 : Int) /\ (0 : Int) <= (0 : Int) /\ (0 : Int) < (↑(3 : Nat) : Int) /\ (0 : Nat) < (3 : Nat) /\ (32 : Int) ≠ (0 : Int) /\ ∃ (x0 : List Int ×
 Int), ((⟨⟨U.n 1 ++ [U.sS s] ++ U.n 5 ++ [U.sI (U.aA ((IntKind.i64.wrap (t3.getD (0 : Nat) (0 : Int))).tmod (32 : Int)) ((IntKind.i64.wrap (t3.getD (1 : Nat) (0 : Int))).tmod (3 : Int)) ((IntKind.i64.wrap (t3.getD (2 : Nat) (0 : Int))).tmod (32 : Int))).1] ++ [U.sI (U.aA ((IntKind.i64.wrap (t3.getD (0 : Nat) (0 : Int))).tmod (32 : Int)) ((IntKind.i64.wrap (t3.getD (1 : Nat) (0 : Int))).tmod
 (3 : Int)) ((IntKind.i64.wrap (t3.getD (2 : Nat) (0 : Int))).tmod (32 : Int))).2] ++ [U.sI (U.aA (U.aA ((IntKind.i64.wrap (t3.getD (0 : Nat) (0 : Int))).tmod (32 : Int)) ((IntKind.i64.wrap (t3.getD (1 : Nat) (0 : Int))).tmod (3 : Int)) ((IntKind.i64.wrap (t3.getD (2 : Nat) (0 : Int))).tmod (32 : Int))).1 ((IntKind.i64.wrap (t3.getD (1 : Nat) (0 : Int))).tmod (3 : Int)) ((IntKind.i64.wrap
 (t3.getD (2 : Nat) (0 : Int))).tmod (32 : Int))).1] ++ [U.sI (U.aA (U.aA ((IntKind.i64.wrap (t3.getD (0 : Nat) (0 : Int))).tmod (32 : Int)) ((IntKind.i64.wrap (t3.getD (1 : Nat) (0 : Int))).tmod (3 : Int)) ((IntKind.i64.wrap (t3.getD (2 : Nat) (0 : Int))).tmod (32 : Int))).1 ((IntKind.i64.wrap (t3.getD (1 : Nat) (0 : Int))).tmod (3 : Int)) ((IntKind.i64.wrap (t3.getD (2 : Nat) (0 :
 Int))).tmod (32 : Int))).2] ++ [U.own 0] ++ [U.sI (0 : Int)] ++ U.n 96, [], [((0 : Nat), .row (5 : Nat) (.int .u8) true false s)]⟩, (1 : Nat), []⟩ : St2) = U.dS (U.aA ((t3.getD (0 : Nat) (0 : Int)).tmod (32 : Int)) ((t3.getD (1 : Nat) (0 : Int)).tmod (3 : Int)) ((t3.getD (2 : Nat) (0 : Int)).tmod (32 : Int))).1 (U.aA ((t3.getD (0 : Nat) (0 : Int)).tmod (32 : Int)) ((t3.getD
 (1 : Nat) (0 : Int)).tmod (3 : Int)) ((t3.getD (2 : Nat) (0 : Int)).tmod (32 : Int))).2 (U.aA (U.aA ((t3.getD (0 : Nat) (0 : Int)).tmod (32 : Int)) ((t3.getD (1 : Nat) (0 : Int)).tmod (3 : Int)) ((t3.getD (2 : Nat) (0 : Int)).tmod (32 : Int))).1 ((t3.getD (1 : Nat) (0 : Int)).tmod (3 : Int)) ((t3.getD (2 : Nat) (0 : Int)).tmod (32 : Int))).1 (U.aA (U.aA ((t3.getD (0 : Nat) (0 :
 Int)).tmod (32 : Int)) ((t3.getD (1 : Nat) (0 : Int)).tmod (3 : Int)) ((t3.getD (2 : Nat) (0 : Int)).tmod (32 : Int))).1 ((t3.getD (1 : Nat) (0 : Int)).tmod (3 : Int)) ((t3.getD (2 : Nat) (0 : Int)).tmod (32 : Int))).2 s x0.1 x0.2 /\ U.dY (U.aA ((t3.getD (0 : Nat) (0 : Int)).tmod (32 : Int)) ((t3.getD (1 : Nat) (0 : Int)).tmod (3 : Int)) ((t3.getD (2 : Nat) (0 : Int)).tmod (32 :
 Int))).1 (U.aA ((t3.getD (0 : Nat) (0 : Int)).tmod (32 : Int)) ((t3.getD (1 : Nat) (0 : Int)).tmod (3 : Int)) ((t3.getD (2 : Nat) (0 : Int)).tmod (32 : Int))).2 (U.aA (U.aA ((t3.getD (0 : Nat) (0 : Int)).tmod (32 : Int)) ((t3.getD (1 : Nat) (0 : Int)).tmod (3 : Int)) ((t3.getD (2 : Nat) (0 : Int)).tmod (32 : Int))).1 ((t3.getD (1 : Nat) (0 : Int)).tmod (3 : Int)) ((t3.getD (2 : Nat) (0
 : Int)).tmod (32 : Int))).1 (U.aA (U.aA ((t3.getD (0 : Nat) (0 : Int)).tmod (32 : Int)) ((t3.getD (1 : Nat) (0 : Int)).tmod (3 : Int)) ((t3.getD (2 : Nat) (0 : Int)).tmod (32 : Int))).1 ((t3.getD (1 : Nat) (0 : Int)).tmod (3 : Int)) ((t3.getD (2 : Nat) (0 : Int)).tmod (32 : Int))).2 s x0.1 x0.2) /\ ∀ (x : List Int × Int), U.dY (U.aA ((t3.getD (0 : Nat) (0 : Int)).tmod (32
 : Int)) ((t3.getD (1 : Nat) (0 : Int)).tmod (3 : Int)) ((t3.getD (2 : Nat) (0 : Int)).tmod (32 : Int))).1 (U.aA ((t3.getD (0 : Nat) (0 : Int)).tmod (32 : Int)) ((t3.getD (1 : Nat) (0 : Int)).tmod (3 : Int)) ((t3.getD (2 : Nat) (0 : Int)).tmod (32 : Int))).2 (U.aA (U.aA ((t3.getD (0 : Nat) (0 : Int)).tmod (32 : Int)) ((t3.getD (1 : Nat) (0 : Int)).tmod (3 : Int)) ((t3.getD (2 : Nat) (0 :
 Int)).tmod (32 : Int))).1 ((t3.getD (1 : Nat) (0 : Int)).tmod (3 : Int)) ((t3.getD (2 : Nat) (0 : Int)).tmod (32 : Int))).1 (U.aA (U.aA ((t3.getD (0 : Nat) (0 : Int)).tmod (32 : Int)) ((t3.getD (1 : Nat) (0 : Int)).tmod (3 : Int)) ((t3.getD (2 : Nat) (0 : Int)).tmod (32 : Int))).1 ((t3.getD (1 : Nat) (0 : Int)).tmod (3 : Int)) ((t3.getD (2 : Nat) (0 : Int)).tmod (32 : Int))).2 s x.1 x.2 ->
 bif decide (x.2 < (↑x.1.length : Int)) then (0 : Int) <= x.2 /\ x.2 < (↑x.1.length : Int) /\ x.2.toNat < x.1.length /\ (decide (x.1.getD x.2.toNat (0 : Int) >= (97 : Int)) = true -> (0 : Int) <= x.2) /\ (decide (x.1.getD x.2.toNat (0 : Int) >= (97 : Int)) = true -> x.2 < (↑x.1.length : Int)) /\ (decide (x.1.getD x.2.toNat (0 : Int) >= (97 : Int)) = true -> x.2.toNat < x.1.length) /\ bif bif decide (x.1.getD
 x.2.toNat (0 : Int) >= (97 : Int)) then decide (x.1.getD x.2.toNat (0 : Int) <= (122 : Int)) else false then (0 : Int) <= x.2 /\ x.2 < (↑x.1.length : Int) /\ x.2.toNat < x.1.length /\ (0 : Int) <= x.2 /\ x.2 < (↑x.1.length : Int) /\ x.2.toNat < x.1.length /\ ∃ (y : List Int × Int), U.dS (U.aA ((t3.getD (0 : Nat) (0 : Int)).tmod (32 : Int)) ((t3.getD (1 : Nat) (0 : Int)).tmod (3 : Int))
 ((t3.getD (2 : Nat) (0 : Int)).tmod (32 : Int))).1 (U.aA ((t3.getD (0 : Nat) (0 : Int)).tmod (32 : Int)) ((t3.getD (1 : Nat) (0 : Int)).tmod (3 : Int)) ((t3.getD (2 : Nat) (0 : Int)).tmod (32 : Int))).2 (U.aA (U.aA ((t3.getD (0 : Nat) (0 : Int)).tmod (32 : Int)) ((t3.getD (1 : Nat) (0 : Int)).tmod (3 : Int)) ((t3.getD (2 : Nat) (0 : Int)).tmod (32 : Int))).1 ((t3.getD (1 : Nat) (0 :
 Int)).tmod (3 : Int)) ((t3.getD (2 : Nat) (0 : Int)).tmod (32 : Int))).1 (U.aA (U.aA ((t3.getD (0 : Nat) (0 : Int)).tmod (32 : Int)) ((t3.getD (1 : Nat) (0 : Int)).tmod (3 : Int)) ((t3.getD (2 : Nat) (0 : Int)).tmod (32 : Int))).1 ((t3.getD (1 : Nat) (0 : Int)).tmod (3 : Int)) ((t3.getD (2 : Nat) (0 : Int)).tmod (32 : Int))).2 s (x.1.set x.2.toNat (IntKind.u8.wrap ((x.1.getD x.2.toNat (0 :
 Int)).sub (32 : Int)))) (IntKind.i64.wrap (x.2.add (1 : Int))) = U.dS (U.aA ((t3.getD (0 : Nat) (0 : Int)).tmod (32 : Int)) ((t3.getD (1 : Nat) (0 : Int)).tmod (3 : Int)) ((t3.getD (2 : Nat) (0 : Int)).tmod (32 : Int))).1 (U.aA ((t3.getD (0 : Nat) (0 : Int)).tmod (32 : Int)) ((t3.getD (1 : Nat) (0 : Int)).tmod (3 : Int)) ((t3.getD (2 : Nat) (0 : Int)).tmod (32 : Int))).2
 (U.aA (U.aA ((t3.getD (0 : Nat) (0 : Int)).tmod (32 : Int)) ((t3.getD (1 : Nat) (0 : Int)).tmod (3 : Int)) ((t3.getD (2 : Nat) (0 : Int)).tmod (32 : Int))).1 ((t3.getD (1 : Nat) (0 : Int)).tmod (3 : Int)) ((t3.getD (2 : Nat) (0 : Int)).tmod (32 : Int))).1 (U.aA (U.aA ((t3.getD (0 : Nat) (0 : Int)).tmod (32 : Int)) ((t3.getD (1 : Nat) (0 : Int)).tmod (3 : Int)) ((t3.getD (2 : Nat) (0
 : Int)).tmod (32 : Int))).1 ((t3.getD (1 : Nat) (0 : Int)).tmod (3 : Int)) ((t3.getD (2 : Nat) (0 : Int)).tmod (32 : Int))).2 s y.1 y.2 /\ U.dY (U.aA ((t3.getD (0 : Nat) (0 : Int)).tmod (32 : Int)) ((t3.getD (1 : Nat) (0 : Int)).tmod (3 : Int)) ((t3.getD (2 : Nat) (0 : Int)).tmod (32 : Int))).1 (U.aA ((t3.getD (0 : Nat) (0 : Int)).tmod (32 : Int)) ((t3.getD (1 : Nat) (0 :
 Int)).tmod (3 : Int)) ((t3.getD (2 : Nat) (0 : Int)).tmod (32 : Int))).2 (U.aA (U.aA ((t3.getD (0 : Nat) (0 : Int)).tmod (32 : Int)) ((t3.getD (1 : Nat) (0 : Int)).tmod (3 : Int)) ((t3.getD (2 : Nat) (0 : Int)).tmod (32 : Int))).1 ((t3.getD (1 : Nat) (0 : Int)).tmod (3 : Int)) ((t3.getD (2 : Nat) (0 : Int)).tmod (32 : Int))).1 (U.aA (U.aA ((t3.getD (0 : Nat) (0 : Int)).tmod (32 :
 Int)) ((t3.getD (1 : Nat) (0 : Int)).tmod (3 : Int)) ((t3.getD (2 : Nat) (0 : Int)).tmod (32 : Int))).1 ((t3.getD (1 : Nat) (0 : Int)).tmod (3 : Int)) ((t3.getD (2 : Nat) (0 : Int)).tmod (32 : Int))).2 s y.1 y.2 /\ y.1.length.sub y.2.toNat < x.1.length.sub x.2.toNat else ∃ (y : List Int × Int), U.dS (U.aA ((t3.getD (0 : Nat) (0 : Int)).tmod (32 : Int)) ((t3.getD (1 : Nat) (0 :
 Int)).tmod (3 : Int)) ((t3.getD (2 : Nat) (0 : Int)).tmod (32 : Int))).1 (U.aA ((t3.getD (0 : Nat) (0 : Int)).tmod (32 : Int)) ((t3.getD (1 : Nat) (0 : Int)).tmod (3 : Int)) ((t3.getD (2 : Nat) (0 : Int)).tmod (32 : Int))).2 (U.aA (U.aA ((t3.getD (0 : Nat) (0 : Int)).tmod (32 : Int)) ((t3.getD (1 : Nat) (0 : Int)).tmod (3 : Int)) ((t3.getD (2 : Nat) (0 : Int)).tmod (32 : Int))).1
 ((t3.getD (1 : Nat) (0 : Int)).tmod (3 : Int)) ((t3.getD (2 : Nat) (0 : Int)).tmod (32 : Int))).1 (U.aA (U.aA ((t3.getD (0 : Nat) (0 : Int)).tmod (32 : Int)) ((t3.getD (1 : Nat) (0 : Int)).tmod (3 : Int)) ((t3.getD (2 : Nat) (0 : Int)).tmod (32 : Int))).1 ((t3.getD (1 : Nat) (0 : Int)).tmod (3 : Int)) ((t3.getD (2 : Nat) (0 : Int)).tmod (32 : Int))).2 s x.1 (IntKind.i64.wrap (x.2.add (1 :
 Int))) = U.dS (U.aA ((t3.getD (0 : Nat) (0 : Int)).tmod (32 : Int)) ((t3.getD (1 : Nat) (0 : Int)).tmod (3 : Int)) ((t3.getD (2 : Nat) (0 : Int)).tmod (32 : Int))).1 (U.aA ((t3.getD (0 : Nat) (0 : Int)).tmod (32 : Int)) ((t3.getD (1 : Nat) (0 : Int)).tmod (3 : Int)) ((t3.getD (2 : Nat) (0 : Int)).tmod (32 : Int))).2 (U.aA (U.aA ((t3.getD (0 : Nat) (0 : Int)).tmod (32
 : Int)) ((t3.getD (1 : Nat) (0 : Int)).tmod (3 : Int)) ((t3.getD (2 : Nat) (0 : Int)).tmod (32 : Int))).1 ((t3.getD (1 : Nat) (0 : Int)).tmod (3 : Int)) ((t3.getD (2 : Nat) (0 : Int)).tmod (32 : Int))).1 (U.aA (U.aA ((t3.getD (0 : Nat) (0 : Int)).tmod (32 : Int)) ((t3.getD (1 : Nat) (0 : Int)).tmod (3 : Int)) ((t3.getD (2 : Nat) (0 : Int)).tmod (32 : Int))).1 ((t3.getD (1 : Nat) (0 :
 Int)).tmod (3 : Int)) ((t3.getD (2 : Nat) (0 : Int)).tmod (32 : Int))).2 s y.1 y.2 /\ U.dY (U.aA ((t3.getD (0 : Nat) (0 : Int)).tmod (32 : Int)) ((t3.getD (1 : Nat) (0 : Int)).tmod (3 : Int)) ((t3.getD (2 : Nat) (0 : Int)).tmod (32 : Int))).1 (U.aA ((t3.getD (0 : Nat) (0 : Int)).tmod (32 : Int)) ((t3.getD (1 : Nat) (0 : Int)).tmod (3 : Int)) ((t3.getD (2 : Nat) (0 : Int)).tmod
 (32 : Int))).2 (U.aA (U.aA ((t3.getD (0 : Nat) (0 : Int)).tmod (32 : Int)) ((t3.getD (1 : Nat) (0 : Int)).tmod (3 : Int)) ((t3.getD (2 : Nat) (0 : Int)).tmod (32 : Int))).1 ((t3.getD (1 : Nat) (0 : Int)).tmod (3 : Int)) ((t3.getD (2 : Nat) (0 : Int)).tmod (32 : Int))).1 (U.aA (U.aA ((t3.getD (0 : Nat) (0 : Int)).tmod (32 : Int)) ((t3.getD (1 : Nat) (0 : Int)).tmod (3 : Int))
 ((t3.getD (2 : Nat) (0 : Int)).tmod (32 : Int))).1 ((t3.getD (1 : Nat) (0 : Int)).tmod (3 : Int)) ((t3.getD (2 : Nat) (0 : Int)).tmod (32 : Int))).2 s y.1 y.2 /\ y.1.length.sub y.2.toNat < x.1.length.sub x.2.toNat else (bif decide ((↑s.length : Int) > (100 : Int)) then true else bif bif bif bif decide ((U.aA ((t3.getD (0 : Nat) (0 : Int)).tmod (32 : Int)) ((t3.getD (1 : Nat) (0 : Int)).tmod (3 :
 Int)) ((t3.getD (2 : Nat) (0 : Int)).tmod (32 : Int))).2 = (0 : Int)) then decide ((U.aA (U.aA ((t3.getD (0 : Nat) (0 : Int)).tmod (32 : Int)) ((t3.getD (1 : Nat) (0 : Int)).tmod (3 : Int)) ((t3.getD (2 : Nat) (0 : Int)).tmod (32 : Int))).1 ((t3.getD (1 : Nat) (0 : Int)).tmod (3 : Int)) ((t3.getD (2 : Nat) (0 : Int)).tmod (32 : Int))).2 = (0 : Int)) else false then decide ((U.aA
 ((t3.getD (0 : Nat) (0 : Int)).tmod (32 : Int)) ((t3.getD (1 : Nat) (0 : Int)).tmod (3 : Int)) ((t3.getD (2 : Nat) (0 : Int)).tmod (32 : Int))).1 = (U.aA (U.aA ((t3.getD (0 : Nat) (0 : Int)).tmod (32 : Int)) ((t3.getD (1 : Nat) (0 : Int)).tmod (3 : Int)) ((t3.getD (2 : Nat) (0 : Int)).tmod (32 : Int))).1 ((t3.getD (1 : Nat) (0 : Int)).tmod (3 : Int)) ((t3.getD (2 : Nat) (0 : Int)).tmod (32
 : Int))).1) else false then decide ((U.kK s).1 = (U.kK x.1).1) else false then decide ((U.kK s).2 = (U.kK x.1).2) else false) = true /\ True
end Go.Proofs.YtdobgidhhpdihaaDoor
set_option linter.unusedSimpArgs false
set_option linter.unusedVariables false
set_option maxRecDepth 100000
namespace Go.Proofs.YtdobgidhhpdihaaDoor
open Go.Vc
open Go.Vc.T
theorem EN : o8 := by unfold o8; decide +kernel
theorem LW : ∀ a b : Fin 32, ∀ m : Fin 3, (U.aA (a.val : Int) (m.val : Int) (b.val : Int)).2 = 0 /\ (U.aA (U.aA (a.val : Int) (m.val : Int) (b.val : Int)).1 (m.val : Int) (b.val : Int)).2 = 0 /\
 (U.aA (a.val : Int) (m.val : Int) (b.val : Int)).1 = (U.aA (U.aA (a.val : Int) (m.val : Int) (b.val : Int)).1 (m.val : Int) (b.val : Int)).1 := by decide +kernel
theorem DN {x : Int} (h : 0 <= x) (k : Int) (hk : 0 < k) : 0 <= x.tmod k /\ x.tmod k < k := ⟨Int.tmod_nonneg k h, Int.tmod_lt_of_pos x hk⟩
theorem OX {x : Int} : aO (U.upB x) = aO x := by
 unfold U.upB
 by_cases h : 97 <= x /\ x <= 122
 ·rw [decide_eq_true h.1, decide_eq_true h.2]
  show aO (x - 32) = aO x
  unfold aO; (repeat' split) <;> omega
 ·have : (decide (97 <= x) && decide (x <= 122)) = false := by
   rw [Bool.and_eq_false_iff, decide_eq_false_iff_not, decide_eq_false_iff_not]; omega
  rw [this]; rfl
theorem OY (s : List Int) : U.kK (s.map U.upB) = U.kK s := by
 have e : (s.map U.upB).map aO = s.map aO := by
  rw [List.map_map]; exact List.map_congr_left fun x _ => OX
 have key : ∀ l : List (List Int × Int), U.rW (s.map U.upB) l = U.rW s l := by
  intro l
  induction l with
  | nil => rfl
  | cons x r ih =>
    show cond (decide (x.1.map aO = (s.map U.upB).map aO)) (x.2, 0) (U.rW (s.map U.upB) r) = cond (decide (x.1.map aO = s.map aO)) (x.2, 0) (U.rW s r)
    rw [e, ih]
 exact key _
theorem Aw (t3 : List Int) (s : List Int) (hv : oI [.arr 3 (.int .u8), .str] (t3, s)) : lD t3 s := by
 have hs : Valid .str s := hv.2
 have hsl : s.length <= maxLen := hs.2
 rw [maxLen_eq] at hsl
 have ht : ∀ k, 0 <= t3.getD k 0 /\ t3.getD k 0 <= 255 := fun k => by
  by_cases h : k < t3.length
  ·rw [getD_at h]; exact T.vU8 (hv.1.1 _ (List.getElem_mem h))
  ·rw [List.getD_eq_getElem?_getD, List.getElem?_eq_none (by omega)]; decide
 unfold lD
 rw [oL (x := t3.getD 0 0) (by have := ht 0; omega) (by have := ht 0; omega), oL (x := t3.getD 1 0) (by have := ht 1; omega) (by have := ht 1; omega), oL (x := t3.getD 2 0) (by have := ht 2; omega) (by have := ht 2; omega)]
 obtain ⟨a0, a1⟩ := DN (ht 0).1 32 (by decide)
 obtain ⟨b0, b1⟩ := DN (ht 2).1 32 (by decide)
 obtain ⟨m0, m1⟩ := DN (ht 1).1 3 (by decide)
 generalize (t3.getD 0 0).tmod 32 = a at *
 generalize (t3.getD 2 0).tmod 32 = b at *
 generalize (t3.getD 1 0).tmod 3 = m at *
 obtain ⟨k1, k2, k3⟩ := LW ⟨a.toNat, by omega⟩ ⟨b.toNat, by omega⟩ ⟨m.toNat, by omega⟩
 have ea : ((a.toNat : Nat) : Int) = a := by omega
 have eb : ((b.toNat : Nat) : Int) = b := by omega
 have em : ((m.toNat : Nat) : Int) = m := by omega
 simp only [ea, eb, em] at k1 k2 k3
 rw [k1, k2, <- k3]
 generalize (U.aA a m b).1 = x at *
 clear k1 k2 k3
 unfold U.dY U.at_
 simp only [uz, qV, kH]
 refine ⟨by decide, by decide, by decide, by decide, by decide, by decide, by decide, by decide, by decide, by decide, by decide, by decide, (s, 0), ⟨rfl, ⟨Int.le_refl 0, by dsimp only; omega⟩, rfl, rfl⟩, ?_⟩
 rintro ⟨c, i⟩ ⟨⟨i0, i1⟩, hcl, hI⟩
 dsimp only at i0 i1 hcl hI ⊢
 rw [cond_prop]
 refine ⟨fun hi => ?_, fun hi => ?_⟩
 ·have hi : i < c.length := of_decide_eq_true hi
  have hi2 : i < s.length := by omega
  have hx := hs.1 _ (List.getElem_mem (show i.toNat < s.length by omega))
  have hci : c.getD i.toNat 0 = s[i.toNat]'(by omega) := by
   rw [getD_at (by omega)]
   have hsome : c[i.toNat]? = some (s[i.toNat]'(by omega)) := by
    have hc' := congrArg (fun l : List Int => l[i.toNat]?) hI
    rw [hc', List.getElem?_append_right (by rw [List.length_map, List.length_take]; omega), List.length_map, List.length_take, show i.toNat - min i.toNat s.length = 0 by omega, List.getElem?_drop, Nat.add_zero, List.getElem?_eq_getElem (by omega)]
   rw [List.getElem?_eq_getElem (by omega)] at hsome
   exact Option.some.inj hsome
  rw [hci, zf (by omega) (by omega)]
  have hdr := drop_at i0 hi2
  have htk := take_at i0 hi2
  generalize s[i.toNat]'(by omega) = y at *
  have hset : ∀ z : Int, c.set i.toNat z = (s.take i.toNat).map U.upB ++ z :: s.drop (i + 1).toNat := fun z => by
   rw [hI, hdr]
   have hl : ((s.take i.toNat).map U.upB).length = i.toNat := by rw [List.length_map, List.length_take]; omega
   rw [List.set_append_right _ _ (by omega), hl, Nat.sub_self]; rfl
  refine ⟨i0, hi, by omega, fun _ => i0, fun _ => hi, fun _ => by omega, ?_⟩
  rw [cond_prop]
  refine ⟨fun h => ?_, fun h => ?_⟩
  ·simp only [Bool.and_eq_true, decide_eq_true_eq] at h
   refine ⟨i0, hi, by omega, i0, hi, by omega, (_, i + 1), rfl, ⟨⟨by dsimp only; omega, by dsimp only; rw [List.length_set]; omega⟩, by dsimp only; rw [List.length_set]; exact hcl, ?_⟩, by dsimp only; rw [List.length_set]; omega⟩
   dsimp only
   rw [hset, htk, List.map_append, List.append_assoc]
   congr 1
   show _ = U.upB y :: s.drop (i + 1).toNat
   congr 1
   rw [DI, wrap_u8, Int.emod_eq_of_lt (by omega) (by omega)]
   unfold U.upB; rw [decide_eq_true (by omega), decide_eq_true (by omega)]; rfl
  ·refine ⟨(c, i + 1), rfl, ⟨⟨by dsimp only; omega, by dsimp only; omega⟩, hcl, ?_⟩, by dsimp only; omega⟩
   dsimp only
   have hup : U.upB y = y := by
    unfold U.upB
    have : (decide (97 <= y) && decide (y <= 122)) = false := h
    rw [this]; rfl
   rw [htk, List.map_append, List.append_assoc]
   show c = _ ++ (U.upB y :: s.drop (i + 1).toNat)
   rw [hup, <- hdr]; exact hI
 ·have hi : ¬ i < c.length := of_decide_eq_false hi
  rw [Am (by omega), drop_end (by omega), List.append_nil] at hI
  rw [hI, OY]
  simp only [decide_true, Bool.and_self, Bool.or_true, and_true]
end Go.Proofs.YtdobgidhhpdihaaDoor
set_option linter.unusedSimpArgs false
set_option maxRecDepth 100000
set_option linter.unusedVariables false
namespace Go.Proofs.YtdobgidhhpdihaaDoor
open Go.Vc
theorem Hy (x : aX []) : mJ Tryd.prog (iT nZ) (yI ) 6 (jF [] x) [] (qZ ) = o8  := by kernel_rfl
theorem Hz : Pok 6 [] (fun x => qZ ) := by
 refine pk (L := fun x => yI ) (l := nZ) yF (fun _ => rfl) ?_
 intro x hv hp
 rw [Hy]
 exact EN
theorem HY : kU Tryd.prog gl 6 yH := Hz
theorem EO : iK ru := .cons HY yF
end Go.Proofs.YtdobgidhhpdihaaDoor
