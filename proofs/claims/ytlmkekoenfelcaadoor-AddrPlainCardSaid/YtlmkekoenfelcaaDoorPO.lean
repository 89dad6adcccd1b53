/- What functions of this seat compute, in plain Lean. -/
import Derived.Test.YtlmkekoenfelcaaDoorPC
import Derived.Test.YtlmkekoenfelcaaDoorPD
set_option linter.unusedVariables false
set_option linter.unusedSimpArgs false
set_option maxRecDepth 100000
namespace Go.Proofs.YtlmkekoenfelcaaDoor
open Go.Vc
namespace U
def oJ (c : Int) : Bool := (decide (97 <= T.orK .u8 c 32) && decide (T.orK .u8 c 32 <= 122)) || (decide (48 <= c) && decide (c <= 57))
def oK (s : List Int) : Bool := s.all oJ && (decide (1 <= s.length) && decide (s.length <= 100))
end U
namespace U
def iY (s : List Int) (i : Int) : St2 := ⟨⟨[sS s] ++ U.n 2 ++ [sI i] ++ U.n 41, [], []⟩, 0, []⟩
def jB (s : List Int)  (i : Int) : Prop := at_ s i /\ i <= 101 /\ (s.take i.toNat).all oJ = true
end U
def EX (s : List Int) : Vc.Loop := ⟨{ keep := [0, 3] }, Int, fun x => U.iY s x, fun x0 x => U.jB s  x, fun x => s.length - x.toNat, fun p => ∀ x, p x, fun _ h => h⟩
def uO (s : List Int) : Done := rB (U.oK s)
def Bd : Vc.Sum := .pure [.str] false fun x => uO x
def Bf (s : List Int) : Nat -> List V -> Nat -> Option Vc.Loop := fun f v k => cond (Nat.beq f 17 && Nat.beq k 2) (some (EX s)) <| none
def oL : List (Nat × Ent) := (17, .sum Bd) :: oI
def sF  : Done := ⟨[], .one (.bool true), [], []⟩
def zy : Vc.Sum := .pure [] false fun _ => sF
def zA  : Nat -> List V -> Nat -> Option Vc.Loop := CO
def sG : List (Nat × Ent) := (7, .sum zy) :: oL
def sH (aO : List Int) (host : List Int) (name : List Int) : Nat -> List V -> Nat -> Option Vc.Loop := CO
end Go.Proofs.YtlmkekoenfelcaaDoor
set_option maxRecDepth 100000
set_option linter.unusedVariables false
namespace Go.Proofs.YtlmkekoenfelcaaDoor
open Go.Vc
def sJ (s : List Int) : Prop := ∃ (x0 : Int), (U.iY s (0 : Int) = U.iY s x0 /\ U.jB s x0) /\ ∀ (x : Int), U.jB s x -> bif bif decide (x < (↑s.length : Int)) then decide (x < (101 : Int)) else false then (0 : Int) <= x /\ x < (↑s.length : Int) /\ ((bif decide (IntKind.u8.wrap (↑((BitVec.ofInt IntKind.u8.bits (s.getD x.toNat (0 : Int))).or
 (BitVec.ofInt IntKind.u8.bits (32 : Int))).toNat : Int) < (97 : Int)) then true else decide (IntKind.u8.wrap (↑((BitVec.ofInt IntKind.u8.bits (s.getD x.toNat (0 : Int))).or (BitVec.ofInt IntKind.u8.bits (32 : Int))).toNat : Int) > (122 : Int))) = true -> (0 : Int) <= x) /\ ((bif decide (IntKind.u8.wrap (↑((BitVec.ofInt IntKind.u8.bits (s.getD x.toNat (0 : Int))).or (BitVec.ofInt IntKind.u8.bits (32 :
 Int))).toNat : Int) < (97 : Int)) then true else decide (IntKind.u8.wrap (↑((BitVec.ofInt IntKind.u8.bits (s.getD x.toNat (0 : Int))).or (BitVec.ofInt IntKind.u8.bits (32 : Int))).toNat : Int) > (122 : Int))) = true -> x < (↑s.length : Int)) /\ ((bif decide (IntKind.u8.wrap (↑((BitVec.ofInt IntKind.u8.bits (s.getD x.toNat (0 : Int))).or (BitVec.ofInt IntKind.u8.bits (32 : Int))).toNat : Int) < (97 :
 Int)) then true else decide (IntKind.u8.wrap (↑((BitVec.ofInt IntKind.u8.bits (s.getD x.toNat (0 : Int))).or (BitVec.ofInt IntKind.u8.bits (32 : Int))).toNat : Int) > (122 : Int))) = true -> decide (s.getD x.toNat (0 : Int) < (48 : Int)) = false -> (0 : Int) <= x) /\ ((bif decide (IntKind.u8.wrap (↑((BitVec.ofInt IntKind.u8.bits (s.getD x.toNat (0 : Int))).or (BitVec.ofInt IntKind.u8.bits (32 :
 Int))).toNat : Int) < (97 : Int)) then true else decide (IntKind.u8.wrap (↑((BitVec.ofInt IntKind.u8.bits (s.getD x.toNat (0 : Int))).or (BitVec.ofInt IntKind.u8.bits (32 : Int))).toNat : Int) > (122 : Int))) = true -> decide (s.getD x.toNat (0 : Int) < (48 : Int)) = false -> x < (↑s.length : Int)) /\ bif bif bif decide (IntKind.u8.wrap (↑((BitVec.ofInt IntKind.u8.bits (s.getD x.toNat (0 : Int))).or
 (BitVec.ofInt IntKind.u8.bits (32 : Int))).toNat : Int) < (97 : Int)) then true else decide (IntKind.u8.wrap (↑((BitVec.ofInt IntKind.u8.bits (s.getD x.toNat (0 : Int))).or (BitVec.ofInt IntKind.u8.bits (32 : Int))).toNat : Int) > (122 : Int)) then bif decide (s.getD x.toNat (0 : Int) < (48 : Int)) then true else decide (s.getD x.toNat (0 : Int) > (57 : Int)) else false then false = U.oK s /\
 True else ∃ (y : Int), U.iY s (IntKind.i64.wrap (x.add (1 : Int))) = U.iY s y /\ U.jB s y /\ s.length.sub y.toNat < s.length.sub x.toNat else (bif decide ((↑s.length : Int) >= (1 : Int)) then decide ((↑s.length : Int) <= (100 : Int)) else false) = U.oK s /\ True
def pY : Prop := (19 : Nat) <= (1000000000 : Nat) /\ (decide ((↑((2 : Nat)) : Int) = (2 : Int)) = true -> (0 : Int) <= (0 : Int)) /\ (decide ((↑((2 : Nat)) : Int) = (2 : Int)) = true -> (0 : Int) < (↑((2 : Nat)) : Int)) /\ ((bif decide ((↑((2 : Nat)) : Int) = (2 : Int)) then ((U.parse [(34 : Int), (65 : Int), (44 : Int), (32 : Int), (66 : Int), (34 : Int), (32 : Int), (60 : Int), (97 : Int),
 (64 : Int), (98 : Int), (62 : Int), (32 : Int), (40 : Int), (99 : Int), (41 : Int), (44 : Int), (32 : Int), (100 : Int)]).getD (0 : Nat) ([], [], [])).1.beq [(65 : Int), (44 : Int), (32 : Int), (66 : Int)] && (((U.parse [(34 : Int), (65 : Int), (44 : Int), (32 : Int), (66 : Int), (34 : Int), (32 : Int), (60 : Int), (97 : Int), (64 : Int), (98 : Int), (62 : Int), (32 : Int), (40 : Int), (99 : Int),
 (41 : Int), (44 : Int), (32 : Int), (100 : Int)]).getD (0 : Nat) ([], [], [])).2.1.beq [(97 : Int)] && (((U.parse [(34 : Int), (65 : Int), (44 : Int), (32 : Int), (66 : Int), (34 : Int), (32 : Int), (60 : Int), (97 : Int), (64 : Int), (98 : Int), (62 : Int), (32 : Int), (40 : Int), (99 : Int), (41 : Int), (44 : Int), (32 : Int), (100 : Int)]).getD (0 : Nat) ([], [], [])).2.2.beq [(98 : Int)] &&
 true)) else false) = true -> (0 : Int) <= (1 : Int)) /\ ((bif decide ((↑((2 : Nat)) : Int) = (2 : Int)) then ((U.parse [(34 : Int), (65 : Int), (44 : Int), (32 : Int), (66 : Int), (34 : Int), (32 : Int), (60 : Int), (97 : Int), (64 : Int), (98 : Int), (62 : Int), (32 : Int), (40 : Int), (99 : Int), (41 : Int), (44 : Int), (32 : Int), (100 : Int)]).getD (0 : Nat) ([], [], [])).1.beq [(65 : Int), (44 :
 Int), (32 : Int), (66 : Int)] && (((U.parse [(34 : Int), (65 : Int), (44 : Int), (32 : Int), (66 : Int), (34 : Int), (32 : Int), (60 : Int), (97 : Int), (64 : Int), (98 : Int), (62 : Int), (32 : Int), (40 : Int), (99 : Int), (41 : Int), (44 : Int), (32 : Int), (100 : Int)]).getD (0 : Nat) ([], [], [])).2.1.beq [(97 : Int)] && (((U.parse [(34 : Int), (65 : Int), (44 : Int), (32 : Int), (66 : Int),
 (34 : Int), (32 : Int), (60 : Int), (97 : Int), (64 : Int), (98 : Int), (62 : Int), (32 : Int), (40 : Int), (99 : Int), (41 : Int), (44 : Int), (32 : Int), (100 : Int)]).getD (0 : Nat) ([], [], [])).2.2.beq [(98 : Int)] && true)) else false) = true -> (1 : Int) < (↑((2 : Nat)) : Int)) /\ ((bif bif decide ((↑((2 : Nat)) : Int) = (2 : Int)) then ((U.parse [(34 : Int), (65 : Int), (44 : Int), (32 :
 Int), (66 : Int), (34 : Int), (32 : Int), (60 : Int), (97 : Int), (64 : Int), (98 : Int), (62 : Int), (32 : Int), (40 : Int), (99 : Int), (41 : Int), (44 : Int), (32 : Int), (100 : Int)]).getD (0 : Nat) ([], [], [])).1.beq [(65 : Int), (44 : Int), (32 : Int), (66 : Int)] && (((U.parse [(34 : Int), (65 : Int), (44 : Int), (32 : Int), (66 : Int), (34 : Int), (32 : Int), (60 : Int), (97 : Int), (64 :
 Int), (98 : Int), (62 : Int), (32 : Int), (40 : Int), (99 : Int), (41 : Int), (44 : Int), (32 : Int), (100 : Int)]).getD (0 : Nat) ([], [], [])).2.1.beq [(97 : Int)] && (((U.parse [(34 : Int), (65 : Int), (44 : Int), (32 : Int), (66 : Int), (34 : Int), (32 : Int), (60 : Int), (97 : Int), (64 : Int), (98 : Int), (62 : Int), (32 : Int), (40 : Int), (99 : Int), (41 : Int), (44 : Int), (32 : Int), (100
 : Int)]).getD (0 : Nat) ([], [], [])).2.2.beq [(98 : Int)] && true)) else false then ((U.parse [(34 : Int), (65 : Int), (44 : Int), (32 : Int), (66 : Int), (34 : Int), (32 : Int), (60 : Int), (97 : Int), (64 : Int), (98 : Int), (62 : Int), (32 : Int), (40 : Int), (99 : Int), (41 : Int), (44 : Int), (32 : Int), (100 : Int)]).getD (1 : Nat) ([], [], [])).1.beq [] && (((U.parse [(34 : Int), (65 :
 Int), (44 : Int), (32 : Int), (66 : Int), (34 : Int), (32 : Int), (60 : Int), (97 : Int), (64 : Int), (98 : Int), (62 : Int), (32 : Int), (40 : Int), (99 : Int), (41 : Int), (44 : Int), (32 : Int), (100 : Int)]).getD (1 : Nat) ([], [], [])).2.1.beq [(100 : Int)] && (((U.parse [(34 : Int), (65 : Int), (44 : Int), (32 : Int), (66 : Int), (34 : Int), (32 : Int), (60 : Int), (97 : Int), (64 : Int), (98
 : Int), (62 : Int), (32 : Int), (40 : Int), (99 : Int), (41 : Int), (44 : Int), (32 : Int), (100 : Int)]).getD (1 : Nat) ([], [], [])).2.2.beq [] && true)) else false) = true -> (11 : Nat) <= (1000000000 : Nat)) /\ (bif bif bif decide ((↑((2 : Nat)) : Int) = (2 : Int)) then ((U.parse [(34 : Int), (65 : Int), (44 : Int), (32 : Int), (66 : Int), (34 : Int), (32 : Int), (60 : Int), (97 : Int), (64 :
 Int), (98 : Int), (62 : Int), (32 : Int), (40 : Int), (99 : Int), (41 : Int), (44 : Int), (32 : Int), (100 : Int)]).getD (0 : Nat) ([], [], [])).1.beq [(65 : Int), (44 : Int), (32 : Int), (66 : Int)] && (((U.parse [(34 : Int), (65 : Int), (44 : Int), (32 : Int), (66 : Int), (34 : Int), (32 : Int), (60 : Int), (97 : Int), (64 : Int), (98 : Int), (62 : Int), (32 : Int), (40 : Int), (99 : Int), (41 :
 Int), (44 : Int), (32 : Int), (100 : Int)]).getD (0 : Nat) ([], [], [])).2.1.beq [(97 : Int)] && (((U.parse [(34 : Int), (65 : Int), (44 : Int), (32 : Int), (66 : Int), (34 : Int), (32 : Int), (60 : Int), (97 : Int), (64 : Int), (98 : Int), (62 : Int), (32 : Int), (40 : Int), (99 : Int), (41 : Int), (44 : Int), (32 : Int), (100 : Int)]).getD (0 : Nat) ([], [], [])).2.2.beq [(98 : Int)] && true))
 else false then ((U.parse [(34 : Int), (65 : Int), (44 : Int), (32 : Int), (66 : Int), (34 : Int), (32 : Int), (60 : Int), (97 : Int), (64 : Int), (98 : Int), (62 : Int), (32 : Int), (40 : Int), (99 : Int), (41 : Int), (44 : Int), (32 : Int), (100 : Int)]).getD (1 : Nat) ([], [], [])).1.beq [] && (((U.parse [(34 : Int), (65 : Int), (44 : Int), (32 : Int), (66 : Int), (34 : Int), (32 : Int), (60 :
 Int), (97 : Int), (64 : Int), (98 : Int), (62 : Int), (32 : Int), (40 : Int), (99 : Int), (41 : Int), (44 : Int), (32 : Int), (100 : Int)]).getD (1 : Nat) ([], [], [])).2.1.beq [(100 : Int)] && (((U.parse [(34 : Int), (65 : Int), (44 : Int), (32 : Int), (66 : Int), (34 : Int), (32 : Int), (60 : Int), (97 : Int), (64 : Int), (98 : Int), (62 : Int), (32 : Int), (40 : Int), (99 : Int), (41 : Int), (44
 : Int), (32 : Int), (100 : Int)]).getD (1 : Nat) ([], [], [])).2.2.beq [] && true)) else false then (U.bare [(32 : Int), (40 : Int), (97 : Int), (40 : Int), (98 : Int), (41 : Int), (99 : Int), (41 : Int), (32 : Int), (120 : Int), (32 : Int)]).beq [(120 : Int)] else false) = true /\ True
def kJ (aO : List Int) (host : List Int) (name : List Int) : Prop := bif bif bif !U.oK aO then true else !U.oK host then true else !U.oK name then true = true /\ True else name.length.add ((2 : Nat)) <= (9223372036854775807 : Nat) /\ (name.append [(32 : Int), (60 : Int)]).length.add aO.length <= (9223372036854775807 : Nat) /\ ((name.append [(32 : Int), (60 :
 Int)]).append aO).length.add ((1 : Nat)) <= (9223372036854775807 : Nat) /\ (((name.append [(32 : Int), (60 : Int)]).append aO).append [(64 : Int)]).length.add host.length <= (9223372036854775807 : Nat) /\ ((((name.append [(32 : Int), (60 : Int)]).append aO).append [(64 : Int)]).append host).length.add ((1 : Nat)) <= (9223372036854775807 : Nat) /\ (((((name.append [(32 : Int), (60 :
 Int)]).append aO).append [(64 : Int)]).append host).append [(62 : Int)]).length <= (1000000000 : Nat) /\ Nat.add ((1 : Nat)) name.length <= (9223372036854775807 : Nat) /\ (name.length.add (1 : Nat)).add ((7 : Nat)) <= (9223372036854775807 : Nat) /\ ((name.append [(34 : Int), (32 : Int), (40 : Int), (120 : Int), (41 : Int), (32 : Int), (60 : Int)]).length.add (1 : Nat)).add aO.length <=
 (9223372036854775807 : Nat) /\ (((name.append [(34 : Int), (32 : Int), (40 : Int), (120 : Int), (41 : Int), (32 : Int), (60 : Int)]).append aO).length.add (1 : Nat)).add ((1 : Nat)) <= (9223372036854775807 : Nat) /\ ((((name.append [(34 : Int), (32 : Int), (40 : Int), (120 : Int), (41 : Int), (32 : Int), (60 : Int)]).append aO).append [(64 : Int)]).length.add (1 : Nat)).add host.length <=
 (9223372036854775807 : Nat) /\ (((((name.append [(34 : Int), (32 : Int), (40 : Int), (120 : Int), (41 : Int), (32 : Int), (60 : Int)]).append aO).append [(64 : Int)]).append host).length.add (1 : Nat)).add ((2 : Nat)) <= (9223372036854775807 : Nat) /\ (((((name.append [(34 : Int), (32 : Int), (40 : Int), (120 : Int), (41 : Int), (32 : Int), (60 : Int)]).append aO).append [(64 : Int)]).append
 host).append [(62 : Int), (32 : Int)]).length.add (1 : Nat) <= (1000000000 : Nat) /\ aO.length.add ((1 : Nat)) <= (9223372036854775807 : Nat) /\ (aO.append [(64 : Int)]).length.add host.length <= (9223372036854775807 : Nat) /\ ((aO.append [(64 : Int)]).append host).length <= (1000000000 : Nat) /\ ((bif bif (U.one (((((name.append [(32 : Int), (60 : Int)]).append aO).append [(64 :
 Int)]).append host).append [(62 : Int)])).1.beq name && ((U.one (((((name.append [(32 : Int), (60 : Int)]).append aO).append [(64 : Int)]).append host).append [(62 : Int)])).2.1.beq aO && ((U.one (((((name.append [(32 : Int), (60 : Int)]).append aO).append [(64 : Int)]).append host).append [(62 : Int)])).2.2.beq host && true)) then (U.one ((34 : Int) :: ((((name.append [(34 : Int), (32
 : Int), (40 : Int), (120 : Int), (41 : Int), (32 : Int), (60 : Int)]).append aO).append [(64 : Int)]).append host).append [(62 : Int), (32 : Int)])).1.beq (U.one (((((name.append [(32 : Int), (60 : Int)]).append aO).append [(64 : Int)]).append host).append [(62 : Int)])).1 && ((U.one ((34 : Int) :: ((((name.append [(34 : Int), (32 : Int), (40 : Int), (120 : Int), (41 : Int), (32 : Int), (60
 : Int)]).append aO).append [(64 : Int)]).append host).append [(62 : Int), (32 : Int)])).2.1.beq (U.one (((((name.append [(32 : Int), (60 : Int)]).append aO).append [(64 : Int)]).append host).append [(62 : Int)])).2.1 && ((U.one ((34 : Int) :: ((((name.append [(34 : Int), (32 : Int), (40 : Int), (120 : Int), (41 : Int), (32 : Int), (60 : Int)]).append aO).append [(64 : Int)]).append
 host).append [(62 : Int), (32 : Int)])).2.2.beq (U.one (((((name.append [(32 : Int), (60 : Int)]).append aO).append [(64 : Int)]).append host).append [(62 : Int)])).2.2 && true)) else false then (U.one ((aO.append [(64 : Int)]).append host)).1.beq [] && ((U.one ((aO.append [(64 : Int)]).append host)).2.1.beq aO && ((U.one ((aO.append [(64 : Int)]).append host)).2.2.beq host &&
 true)) else false) = true -> name.length <= (1000000000 : Nat)) /\ (bif bif bif (U.one (((((name.append [(32 : Int), (60 : Int)]).append aO).append [(64 : Int)]).append host).append [(62 : Int)])).1.beq name && ((U.one (((((name.append [(32 : Int), (60 : Int)]).append aO).append [(64 : Int)]).append host).append [(62 : Int)])).2.1.beq aO && ((U.one (((((name.append [(32 : Int), (60 :
 Int)]).append aO).append [(64 : Int)]).append host).append [(62 : Int)])).2.2.beq host && true)) then (U.one ((34 : Int) :: ((((name.append [(34 : Int), (32 : Int), (40 : Int), (120 : Int), (41 : Int), (32 : Int), (60 : Int)]).append aO).append [(64 : Int)]).append host).append [(62 : Int), (32 : Int)])).1.beq (U.one (((((name.append [(32 : Int), (60 : Int)]).append aO).append [(64 :
 Int)]).append host).append [(62 : Int)])).1 && ((U.one ((34 : Int) :: ((((name.append [(34 : Int), (32 : Int), (40 : Int), (120 : Int), (41 : Int), (32 : Int), (60 : Int)]).append aO).append [(64 : Int)]).append host).append [(62 : Int), (32 : Int)])).2.1.beq (U.one (((((name.append [(32 : Int), (60 : Int)]).append aO).append [(64 : Int)]).append host).append [(62 : Int)])).2.1 && ((U.one
 ((34 : Int) :: ((((name.append [(34 : Int), (32 : Int), (40 : Int), (120 : Int), (41 : Int), (32 : Int), (60 : Int)]).append aO).append [(64 : Int)]).append host).append [(62 : Int), (32 : Int)])).2.2.beq (U.one (((((name.append [(32 : Int), (60 : Int)]).append aO).append [(64 : Int)]).append host).append [(62 : Int)])).2.2 && true)) else false then (U.one ((aO.append [(64 :
 Int)]).append host)).1.beq [] && ((U.one ((aO.append [(64 : Int)]).append host)).2.1.beq aO && ((U.one ((aO.append [(64 : Int)]).append host)).2.2.beq host && true)) else false then (U.bare name).beq name else false) = true /\ True
end Go.Proofs.YtlmkekoenfelcaaDoor
set_option linter.unusedSimpArgs false
set_option linter.unusedVariables false
set_option maxRecDepth 100000
namespace Go.Proofs.YtlmkekoenfelcaaDoor
open Go.Vc
open Go.Vc.T
theorem GK : pY := by unfold pY; decide +kernel
theorem QU (l : List Int) : l.beq l = true := beq_self_eq_true l
def U.fin : St -> List Int -> St
 | s, [] => s
 | s, c :: r => U.fin (U.scan s c).1 r
theorem iQ : ∀ (a b : List Int) (s : St), U.runs s (a ++ b) = U.runs s a ++ U.runs (U.fin s a) b
 | [], b, s => rfl
 | c :: r, b, s => by
   show (U.scan s c).2 :: U.runs _ (r ++ b) = (U.scan s c).2 :: (U.runs _ r ++ _)
   rw [iQ r b]; rfl
theorem Ac : ∀ (a b : List Int) (s : St), U.fin s (a ++ b) = U.fin (U.fin s a) b
 | [], b, s => rfl
 | c :: r, b, s => Ac r b (U.scan s c).1
theorem EY : ∀ (a b ka kb : List Int), ka.length = a.length -> U.noC (a ++ b) (ka ++ kb) = U.noC a ka ++ U.noC b kb
 | [], b, [], kb, _ => by simp [U.noC]
 | [], b, _ :: _, kb, h => by simp at h
 | _ :: _, b, [], kb, h => by simp at h
 | c :: r, b, k :: ks, kb, h => by
   show cond (decide (k = 2)) (U.noC (r ++ b) (ks ++ kb)) (c :: U.noC (r ++ b) (ks ++ kb)) = cond (decide (k = 2)) (U.noC r ks) (c :: U.noC r ks) ++ _
   rw [EY r b ks kb (by simpa using h)]
   cases decide (k = 2) <;> rfl
theorem nV : ∀ (a k : List Int), (∀ x ∈ k, x ≠ 2) -> k.length = a.length -> U.noC a k = a
 | [], [], _, _ => rfl
 | [], _ :: _, _, h => by simp at h
 | _ :: _, [], _, h => by simp at h
 | c :: r, k :: ks, h, hl => by
   show cond (decide (k = 2)) (U.noC r ks) (c :: U.noC r ks) = _
   rw [decide_eq_false (h k (by simp)), cond_false, nV r ks (fun x hx => h x (List.mem_cons_of_mem _ hx)) (by simpa using hl)]
theorem O8 {c : Int} (h0 : 0 <= c) (h1 : c <= 255) (h : U.oJ c = true) : c ≠ 34 /\ c ≠ 40 /\ c ≠ 41 /\ c ≠ 44 /\ c ≠ 60 /\ c ≠ 62 /\ c ≠ 64 /\ c ≠ 92 /\ U.blank c = false := by
 have key : ∀ k : Fin 256, U.oJ (k.val : Int) = true -> ((k.val : Int) ≠ 34 /\ (k.val : Int) ≠ 40 /\ (k.val : Int) ≠ 41 /\ (k.val : Int) ≠ 44 /\ (k.val : Int) ≠ 60 /\ (k.val : Int) ≠ 62 /\ (k.val : Int) ≠ 64 /\ (k.val : Int) ≠ 92 /\ U.blank (k.val : Int) = false) := by decide +kernel
 have := key ⟨c.toNat, by omega⟩
 rw [show ((c.toNat : Nat) : Int) = c by omega] at this
 exact this h
def Word (w : List Int) : Prop := (1 <= w.length /\ w.length <= 100) /\ ∀ c ∈ w, c ≠ 34 /\ c ≠ 40 /\ c ≠ 41 /\ c ≠ 44 /\ c ≠ 60 /\ c ≠ 62 /\ c ≠ 64 /\ c ≠ 92 /\ U.blank c = false
theorem EZ {w : List Int} (hv : Valid .str w) (h : U.oK w = true) : Word w := by
 unfold U.oK at h
 simp only [Bool.and_eq_true, decide_eq_true_eq, List.all_eq_true] at h
 refine ⟨⟨h.2.1, h.2.2⟩, fun c hc => ?_⟩
 have hb := hv.1 c hc
 exact O8 hb.1 (by have := hb.2; omega) (h.1 c hc)
theorem FY {w : List Int} (h : Word w) : ∃ x r, w = x :: r /\ U.blank x = false /\ x ≠ 34 := by
 obtain ⟨⟨h1, _⟩, h2⟩ := h
 match w, h1, h2 with
 | x :: r, _, h2 => have := h2 x (by simp); exact ⟨x, r, rfl, this.2.2.2.2.2.2.2.2, this.1⟩
theorem FZ {w : List Int} (h : Word w) : ∃ r x, w = r ++ [x] /\ U.blank x = false := by
 have hne : w ≠ [] := fun e => by have := h.1.1; rw [e] at this; simp at this
 exact ⟨w.dropLast, w.getLast hne, (List.dropLast_concat_getLast hne).symm, (h.2 _ (List.getLast_mem hne)).2.2.2.2.2.2.2.2⟩
theorem ug : ∀ (w : List Int), (∀ c ∈ w, c ≠ 34 /\ c ≠ 40 /\ c ≠ 60) -> U.fin (0, 0, false) w = (0, 0, false) /\ U.runs (0, 0, false) w = w.map (fun _ => 0)
 | [], _ => ⟨rfl, rfl⟩
 | c :: r, h => by
   have hc := h c (by simp)
   have hs : U.scan (0, 0, false) c = ((0, 0, false), 0) := by
    unfold U.scan U.opens; dsimp only
    rw [decide_eq_false hc.1, decide_eq_false hc.2.1, decide_eq_false hc.2.2]; rfl
   have ih := ug r fun x hx => h x (List.mem_cons_of_mem _ hx)
   show U.fin (U.scan (0, 0, false) c).1 r = _ /\ (U.scan (0, 0, false) c).2 :: U.runs (U.scan (0, 0, false) c).1 r = _
   rw [hs, ih.1, ih.2]; exact ⟨rfl, rfl⟩
theorem Eb : ∀ (w : List Int), (∀ c ∈ w, c ≠ 34 /\ c ≠ 92) -> U.fin (1, 0, false) w = (1, 0, false) /\ U.runs (1, 0, false) w = w.map (fun _ => 1)
 | [], _ => ⟨rfl, rfl⟩
 | c :: r, h => by
   have hc := h c (by simp)
   have hs : U.scan (1, 0, false) c = ((1, 0, false), 1) := by
    unfold U.scan; dsimp only
    rw [decide_eq_false hc.1, decide_eq_false hc.2]; rfl
   have ih := Eb r fun x hx => h x (List.mem_cons_of_mem _ hx)
   show U.fin (U.scan (1, 0, false) c).1 r = _ /\ (U.scan (1, 0, false) c).2 :: U.runs (U.scan (1, 0, false) c).1 r = _
   rw [hs, ih.1, ih.2]; exact ⟨rfl, rfl⟩
theorem Ec : ∀ (w : List Int), (∀ c ∈ w, c ≠ 62) -> U.fin (3, 0, false) w = (3, 0, false) /\ U.runs (3, 0, false) w = w.map (fun _ => 3)
 | [], _ => ⟨rfl, rfl⟩
 | c :: r, h => by
   have hc := h c (by simp)
   have hs : U.scan (3, 0, false) c = ((3, 0, false), 3) := by
    unfold U.scan; dsimp only
    rw [decide_eq_false hc]; rfl
   have ih := Ec r fun x hx => h x (List.mem_cons_of_mem _ hx)
   show U.fin (U.scan (3, 0, false) c).1 r = _ /\ (U.scan (3, 0, false) c).2 :: U.runs (U.scan (3, 0, false) c).1 r = _
   rw [hs, ih.1, ih.2]; exact ⟨rfl, rfl⟩
theorem ny {w : List Int} {k m : Int} (h : k ≠ m) : ∀ x ∈ w.map (fun _ => k), x ≠ m := by
 intro x hx
 obtain ⟨_, _, rfl⟩ := List.mem_map.1 hx
 exact h
theorem uh (a : List Int) (c : Int) (h : U.blank c = true) : U.trimB (a ++ [c]) = U.trimB a := by
 unfold U.trimB
 rw [xC, h, cond_true]
 have := BL a
 rw [List.take_append_of_le_length this]
theorem vU {a : List Int} (hf : U.dS a = 0) (hb : ∃ r x, a = r ++ [x] /\ U.blank x = false) : U.trimB a = a := by
 obtain ⟨r, x, rfl, hx⟩ := hb
 unfold U.trimB
 rw [xC, hx, cond_false, List.take_of_length_le (by simp), hf]; rfl
theorem zB {w : List Int} (h : Word w) (r : List Int) : U.dS (w ++ r) = 0 := by
 obtain ⟨x, s, rfl, hx, _⟩ := FY h
 show U.dS (x :: (s ++ r)) = 0
 rw [U.dS, hx]; rfl
theorem F5 {w : List Int} (h : Word w) : U.trimB w = w := vU (by have := zB h []; rwa [List.append_nil] at this) (FZ h)
theorem Oq (c : Int) : ∀ (a : List Int), (∀ x ∈ a, x ≠ c) -> aH a c = -1
 | [], _ => rfl
 | x :: r, h => by rw [rX, if_neg (h x (by simp)), if_pos (Oq c r fun y hy => h y (List.mem_cons_of_mem _ hy))]
theorem BR (c : Int) (a b : List Int) (h : ∀ x ∈ a, x ≠ c) : aH (a ++ c :: b) c = a.length := by
 rw [Jo c a _ h, rX, if_pos rfl, if_neg (by decide)]; omega
theorem O9 (c : Int) (a b : List Int) (h : ∀ x ∈ a, x ≠ c) : U.nP (a ++ c :: b) c = a := by
 unfold U.nP
 rw [BR c a b h, decide_eq_true (by omega), cond_true]; simp
theorem Ot (c : Int) (a b : List Int) (h : ∀ x ∈ b, x ≠ c) : U.lastB (a ++ c :: b) c = a.length := by
 unfold U.lastB
 rw [show (a ++ c :: b).reverse = b.reverse ++ c :: a.reverse by simp, BR c _ _ (fun x hx => h x (List.mem_reverse.1 hx)), decide_eq_true (by omega), cond_true]
 simp; omega
theorem E5 (nm l m : List Int) (h : ∀ x ∈ m, x ≠ 64) : U.addrOf nm (l ++ 64 :: m) = (U.gU nm, l, m) := by
 unfold U.addrOf
 rw [Ot 64 l m h, decide_eq_true (by omega), cond_true, cond_true]
 have h1 : (l ++ 64 :: m).take ((l.length : Int)).toNat = l := by simp
 have h2 : (l ++ 64 :: m).drop ((l.length : Int) + 1).toNat = m := by
  rw [show ((l.length : Int) + 1).toNat = l.length + 1 by omega, List.drop_append, List.drop_of_length_le (by omega), show l.length + 1 - l.length = 1 by omega]; rfl
 rw [h1, h2]
theorem Lc (q m : List Int) (hq : ∀ x ∈ U.sorts q, x ≠ 3) (hf : U.fin (0, 0, false) q = (0, 0, false)) (hm : ∀ c ∈ m, c ≠ 62) : U.Js (q ++ 60 :: m ++ [62]) = U.addrOf q (U.trimB m) := by
 have hs : U.sorts (q ++ 60 :: m ++ [62]) = U.sorts q ++ 3 :: U.runs (3, 0, false) (m ++ [62]) := by
  unfold U.sorts
  rw [List.append_assoc, iQ, hf]; rfl
 have ha : U.jK (q ++ 60 :: m ++ [62]) = q.length := by
  unfold U.jK
  rw [hs, BR 3 _ _ hq, aX]
 unfold U.Js U.xG U.xE
 rw [ha, decide_eq_true (by omega : (q.length : Int) >= 0), cond_true, cond_true]
 have h1 : (q ++ 60 :: m ++ [62]).take ((q.length : Int)).toNat = q := by simp
 have h2 : (q ++ 60 :: m ++ [62]).drop ((q.length : Int) + 1).toNat = m ++ [62] := by
  rw [show ((q.length : Int) + 1).toNat = q.length + 1 by omega, List.append_assoc, List.drop_append, List.drop_of_length_le (by omega), show q.length + 1 - q.length = 1 by omega]; rfl
 rw [h1, h2, O9 62 m [] hm]
theorem Pe (m : List Int) (hm : ∀ x ∈ U.sorts m, x ≠ 3) : U.Js m = U.addrOf [] (U.trimB m) := by
 unfold U.Js U.xG U.xE
 have ha : U.jK m = -1 := Oq 3 _ hm
 rw [ha]; rfl
theorem Ou : ∀ (l : List Int), (∀ c ∈ l, c ≠ 92) -> U.unq false l = l
 | [], _ => rfl
 | c :: r, h => by
   show cond (decide (c = 92) && !false) _ (c :: U.unq false r) = _
   rw [decide_eq_false (h c (by simp)), Ou r fun x hx => h x (List.mem_cons_of_mem _ hx)]; rfl
theorem Jw {w : List Int} (h : Word w) : U.jw w = w := by
 obtain ⟨x, r, rfl, _, hx⟩ := FY h
 unfold U.jw U.l9
 rw [show decide ((x :: r).getD 0 0 = 34) = false from decide_eq_false hx, Bool.false_and, Bool.and_false]; rfl
theorem E8 (w : List Int) (h : ∀ c ∈ w, c ≠ 92) : U.jw (34 :: w ++ [34]) = w := by
 have hq : U.l9 (34 :: w ++ [34]) = true := by
  unfold U.l9
  have : (34 :: w ++ [34] : List Int).getD ((34 :: w ++ [34] : List Int).length - 1) 0 = 34 := by
   rw [show (34 :: w ++ [34] : List Int).length - 1 = (34 :: w).length by simp, getD_at (by simp), List.getElem_append_right (by simp)]; simp
  rw [this]; simp
 unfold U.jw
 rw [hq, cond_true]
 have : ((34 :: w ++ [34] : List Int).drop 1).take ((34 :: w ++ [34] : List Int).length - 2) = w := by
  show (w ++ [34]).take _ = w
  rw [show (34 :: w ++ [34] : List Int).length - 2 = w.length by simp, List.take_left]
 rw [this, Ou w h]
theorem Ov {w : List Int} (h : Word w) : U.bare w = w := by
 have hp := ug w fun c hc => by have := h.2 c hc; exact ⟨this.1, this.2.1, this.2.2.2.2.1⟩
 unfold U.bare U.sorts
 rw [hp.2, nV _ _ (ny (by decide)) (by simp), F5 h]
theorem Jy (s : List Int) (hv : Valid .str s) : sJ s := by
 have hle : s.length <= maxLen := hv.2
 rw [maxLen_eq] at hle
 unfold sJ U.jB U.at_
 simp only [lD, zX, QL]
 refine ⟨0, ⟨rfl, ⟨Int.le_refl 0, by omega⟩, by omega, rfl⟩, ?_⟩
 rintro i ⟨⟨i0, i1⟩, i2, hI⟩
 rw [cond_prop]
 simp only [Bool.and_eq_true, decide_eq_true_eq, Bool.and_eq_false_iff, decide_eq_false_iff_not]
 refine ⟨fun hi => ?_, fun hi => ⟨?_, trivial⟩⟩
 ·have hlt : i < s.length := hi.1
  have hg : s.getD i.toNat 0 = s[i.toNat]'(by omega) := getD_at (by omega)
  have hb := hv.1 _ (List.getElem_mem (show i.toNat < s.length by omega))
  refine ⟨i0, hlt, fun _ => i0, fun _ => hlt, fun _ _ => i0, fun _ _ => hlt, ?_⟩
  rw [hg, cond_prop]
  have hx : ((decide (T.orK .u8 s[i.toNat] 32 < 97) || decide (T.orK .u8 s[i.toNat] 32 > 122)) && (decide (s[i.toNat] < 48) || decide (s[i.toNat] > 57))) = !(U.oJ s[i.toNat]) := by
   unfold U.oJ
   rw [Bool.eq_iff_iff]; simp only [Bool.and_eq_true, Bool.or_eq_true, Bool.not_eq_true', decide_eq_true_eq, Bool.or_eq_false_iff, Bool.and_eq_false_iff, decide_eq_false_iff_not]; omega
  have Sm : s = s.take i.toNat ++ (s[i.toNat] :: s.drop (i + 1).toNat) := by
   rw [<- drop_at i0 hlt, List.take_append_drop]
  refine ⟨fun h => ⟨?_, trivial⟩, fun h => ?_⟩
  ·have h : (!(U.oJ s[i.toNat])) = true := by rw [<- hx]; exact h
   have ha : s.all U.oJ = false := by
    rw [Bool.eq_false_iff]; intro hc
    rw [List.all_eq_true.1 hc _ (List.getElem_mem (show i.toNat < s.length by omega))] at h; cases h
   unfold U.oK; rw [ha]; rfl
  ·have h : (!(U.oJ s[i.toNat])) = false := by rw [<- hx]; exact h
   rw [iJ (by omega) (by omega)]
   refine ⟨i + 1, rfl, ⟨⟨by omega, by omega⟩, by omega, ?_⟩, by simp only [bZ]; omega⟩
   rw [take_at i0 hlt, List.all_append, hI]
   simp only [Bool.not_eq_false'] at h
   simp [h]
 ·unfold U.oK
  by_cases hl : s.length <= 100
  ·have hall : s.all U.oJ = true := by
    rw [xA (by omega)] at hI; exact hI
   rw [hall, Bool.true_and, decide_eq_true hl, decide_eq_true (by omega : (s.length : Int) <= 100), Bool.and_true, Bool.and_true, Bool.eq_iff_iff, decide_eq_true_eq, decide_eq_true_eq]; omega
  ·rw [decide_eq_false hl, Bool.and_false, Bool.and_false, decide_eq_false (by omega : ¬ (s.length : Int) <= 100), Bool.and_false]
theorem Ag (aO host name : List Int) (hv : oZ [.str, .str, .str] (aO, host, name)) : kJ aO host name := by
 unfold kJ
 simp only [lD, zX]
 rw [cond_prop]
 refine ⟨fun _ => ⟨trivial, trivial⟩, fun h => ?_⟩
 simp only [Bool.or_eq_false_iff, Bool.not_eq_false'] at h
 have hw1 : Word aO := EZ hv.1 h.1.1
 have hw2 : Word host := EZ hv.2.1 h.1.2
 have hw3 : Word name := EZ hv.2.2 h.2
 clear h hv
 generalize aO = l at *
 generalize host = m at *
 generalize name = n at *
 have hl1 := hw1.1; have hl2 := hw2.1; have hl3 := hw3.1
 have hlm : ∀ c ∈ l ++ 64 :: m, c ≠ 62 /\ c ≠ 34 /\ c ≠ 40 /\ c ≠ 60 := by
  intro c hc
  rcases List.mem_append.1 hc with hc | hc
  ·have := hw1.2 c hc; exact ⟨this.2.2.2.2.2.1, this.1, this.2.1, this.2.2.2.2.1⟩
  ·rcases List.mem_cons.1 hc with rfl | hc
   ·decide
   ·have := hw2.2 c hc; exact ⟨this.2.2.2.2.2.1, this.1, this.2.1, this.2.2.2.2.1⟩
 have Pg : ∀ c ∈ m, c ≠ 64 := fun c hc => (hw2.2 c hc).2.2.2.2.2.2.1
 have htr : U.trimB (l ++ 64 :: m) = l ++ 64 :: m := by
  refine vU (zB hw1 _) ?_
  obtain ⟨r, x, rfl, hx⟩ := FZ hw2
  exact ⟨l ++ 64 :: r, x, by simp, hx⟩
 have hpn := ug n fun c hc => by have := hw3.2 c hc; exact ⟨this.1, this.2.1, this.2.2.2.2.1⟩
 have hqn := Eb n fun c hc => by have := hw3.2 c hc; exact ⟨this.1, this.2.2.2.2.2.2.2.1⟩
 have hang := Ec (l ++ 64 :: m) fun c hc => (hlm c hc).1
 have hA : U.one (n ++ [32, 60] ++ l ++ [64] ++ m ++ [62]) = (n, l, m) := by
  have e : n ++ [32, 60] ++ l ++ [64] ++ m ++ [62] = (n ++ [32]) ++ 60 :: (l ++ 64 :: m) ++ [62] := by simp
  have hf : U.fin (0, 0, false) (n ++ [32]) = (0, 0, false) := by rw [Ac, hpn.1]; rfl
  have hs : U.sorts (n ++ [32]) = (n ++ [32]).map (fun _ => 0) := by unfold U.sorts; rw [iQ, hpn.1, hpn.2, List.map_append]; rfl
  have hb : U.bare ((n ++ [32]) ++ 60 :: (l ++ 64 :: m) ++ [62]) = (n ++ [32]) ++ 60 :: (l ++ 64 :: m) ++ [62] := by
   unfold U.bare
   have hs2 : U.sorts ((n ++ [32]) ++ 60 :: (l ++ 64 :: m) ++ [62]) = (n ++ [32]).map (fun _ => (0 : Int)) ++ 3 :: ((l ++ 64 :: m).map (fun _ => (3 : Int)) ++ [3]) := by
    unfold U.sorts at hs ⊢
    rw [List.append_assoc, iQ, hf, hs]
    show _ ++ 3 :: U.runs (3, 0, false) ((l ++ 64 :: m) ++ [62]) = _
    rw [iQ, hang.1, hang.2]; rfl
   rw [nV _ _ (by
    rw [hs2]
    intro x hx
    rcases List.mem_append.1 hx with hx | hx
    ·exact ny (by decide) x hx
    ·rcases List.mem_cons.1 hx with rfl | hx
     ·decide
     ·rcases List.mem_append.1 hx with hx | hx
      ·exact ny (by decide) x hx
      ·rw [List.mem_singleton.1 hx]; decide) (aX _)]
   refine vU ?_ ⟨_, 62, rfl, rfl⟩
   rw [show (n ++ [32]) ++ 60 :: (l ++ 64 :: m) ++ [62] = n ++ (32 :: 60 :: (l ++ 64 :: m) ++ [62]) by simp]
   exact zB hw3 _
  unfold U.one
  rw [e, hb, Lc _ _ (by rw [hs]; exact ny (by decide)) hf (fun c hc => (hlm c hc).1), htr, E5 _ _ _ Pg]
  unfold U.gU
  rw [uh _ _ rfl, F5 hw3, Jw hw3]
 have hB : U.one (34 :: (n ++ [34, 32, 40, 120, 41, 32, 60] ++ l ++ [64] ++ m ++ [62, 32])) = (n, l, m) := by
  have e : 34 :: (n ++ [34, 32, 40, 120, 41, 32, 60] ++ l ++ [64] ++ m ++ [62, 32]) = (34 :: n ++ [34, 32]) ++ ([40, 120, 41] ++ (32 :: 60 :: (l ++ 64 :: m) ++ [62, 32])) := by simp
  have hf : U.fin (0, 0, false) (34 :: n ++ [34, 32]) = (0, 0, false) := by
   show U.fin (1, 0, false) (n ++ [34, 32]) = _
   rw [Ac, hqn.1]; rfl
  have hs : U.runs (0, 0, false) (34 :: n ++ [34, 32]) = 1 :: n.map (fun _ => 1) ++ [1, 0] := by
   show 1 :: U.runs (1, 0, false) (n ++ [34, 32]) = _
   rw [iQ, hqn.1, hqn.2]; rfl
  have hs3 : U.runs (0, 0, false) (32 :: 60 :: (l ++ 64 :: m) ++ [62, 32]) = 0 :: 3 :: ((l ++ 64 :: m).map (fun _ => (3 : Int)) ++ [3, 0]) := by
   show 0 :: 3 :: U.runs (3, 0, false) ((l ++ 64 :: m) ++ [62, 32]) = _
   rw [iQ, hang.1, hang.2]; rfl
  have hne1 : ∀ x ∈ (1 :: n.map (fun _ => (1 : Int)) ++ [1, 0]), x ≠ 2 /\ x ≠ 3 := by
   intro x hx
   rcases List.mem_append.1 hx with hx | hx
   ·rcases List.mem_cons.1 hx with rfl | hx
    ·decide
    ·exact ⟨ny (by decide) x hx, ny (by decide) x hx⟩
   ·simp at hx; rcases hx with rfl | rfl <;> decide
  have hb : U.bare (34 :: (n ++ [34, 32, 40, 120, 41, 32, 60] ++ l ++ [64] ++ m ++ [62, 32])) = (34 :: n ++ [34, 32, 32]) ++ 60 :: (l ++ 64 :: m) ++ [62] := by
   rw [e]
   unfold U.bare U.sorts
   rw [iQ, hf, hs, EY _ _ _ _ (by simp), nV _ _ (fun x hx => (hne1 x hx).1) (by simp)]
   rw [iQ, EY _ _ _ _ (by rw [BO])]
   have h2 : U.noC [40, 120, 41] (U.runs (0, 0, false) [40, 120, 41]) = [] := by decide
   have h3 : U.fin (0, 0, false) [40, 120, 41] = (0, 0, false) := by decide
   rw [h2, h3, hs3, List.nil_append, nV _ _ (by
    intro x hx
    rcases List.mem_cons.1 hx with rfl | hx
    ·decide
    rcases List.mem_cons.1 hx with rfl | hx
    ·decide
    rcases List.mem_append.1 hx with hx | hx
    ·exact ny (by decide) x hx
    ·simp at hx; rcases hx with rfl | rfl <;> decide) (by simp)]
   have e2 : (34 :: n ++ [34, 32]) ++ (32 :: 60 :: (l ++ 64 :: m) ++ [62, 32]) = ((34 :: n ++ [34, 32, 32]) ++ 60 :: (l ++ 64 :: m) ++ [62]) ++ [32] := by simp
   rw [e2, uh _ _ rfl]
   exact vU rfl ⟨_, 62, rfl, rfl⟩
  unfold U.one
  rw [hb, Lc _ _ (by
   intro x hx
   have : U.sorts (34 :: n ++ [34, 32, 32]) = (1 :: n.map (fun _ => 1) ++ [1, 0]) ++ [0] := by
    unfold U.sorts
    rw [show (34 :: n ++ [34, 32, 32] : List Int) = (34 :: n ++ [34, 32]) ++ [32] by simp, iQ, hf, hs]; rfl
   rw [this] at hx
   rcases List.mem_append.1 hx with hx | hx
   ·exact (hne1 x hx).2
   ·rw [List.mem_singleton.1 hx]; decide) (by
   rw [show (34 :: n ++ [34, 32, 32] : List Int) = (34 :: n ++ [34, 32]) ++ [32] by simp, Ac, hf]; rfl) (fun c hc => (hlm c hc).1), htr, E5 _ _ _ Pg]
  unfold U.gU
  rw [show (34 :: n ++ [34, 32, 32] : List Int) = ((34 :: n ++ [34]) ++ [32]) ++ [32] by simp, uh _ _ rfl, uh _ _ rfl, vU rfl ⟨_, 34, rfl, rfl⟩, E8 n (fun c hc => (hw3.2 c hc).2.2.2.2.2.2.2.1)]
 have hC : U.one (l ++ [64] ++ m) = ([], l, m) := by
  have e : l ++ [64] ++ m = l ++ 64 :: m := by simp
  have hp := ug (l ++ 64 :: m) fun c hc => (hlm c hc).2
  have hb : U.bare (l ++ 64 :: m) = l ++ 64 :: m := by
   unfold U.bare U.sorts
   rw [hp.2, nV _ _ (ny (by decide)) (by simp), htr]
  unfold U.one
  rw [e, hb, Pe _ (by unfold U.sorts; rw [hp.2]; exact ny (by decide)), htr, E5 _ _ _ Pg]; rfl
 simp only [J9, gB]
 rw [hA, hB, hC, Ov hw3]
 simp only [List.length_append, List.length_cons, List.length_nil, QU, Bool.and_true, Bool.true_and]
 refine ⟨by omega, by omega, by omega, by omega, by omega, by omega, by omega, by omega, by omega, by omega, by omega, by omega, by omega, by omega, by omega, by omega, fun _ => by omega, trivial, trivial⟩
end Go.Proofs.YtlmkekoenfelcaaDoor
set_option linter.unusedSimpArgs false
set_option maxRecDepth 100000
set_option linter.unusedVariables false
namespace Go.Proofs.YtlmkekoenfelcaaDoor
open Go.Vc
theorem KE (x : aT [.str]) : jk Tryd.prog (eX oI) (Bf x) 17 (fQ [.str] x) [] (uO x) = sJ x := by kernel_rfl
theorem KF : Pok 17 [.str] (fun x => uO x) := by
 refine pk (L := fun x => Bf x) (l := oI) zx (fun _ => rfl) ?_
 intro x hv hp
 rw [KE]
 exact Jy x hv
theorem KG : fF Tryd.prog gl 17 Bd := KF
theorem zC : dG oL := .cons KG zx
theorem Jz (x : aT []) : jk Tryd.prog (eX oL) (zA ) 7 (fQ [] x) [] (sF ) = pY  := by kernel_rfl
theorem JA : Pok 7 [] (fun x => sF ) := by
 refine pk (L := fun x => zA ) (l := oL) zC (fun _ => rfl) ?_
 intro x hv hp
 rw [Jz]
 exact GK
theorem JB : fF Tryd.prog gl 7 zy := JA
theorem GL : dG sG := .cons JB zC
end Go.Proofs.YtlmkekoenfelcaaDoor
