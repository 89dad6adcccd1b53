/- What functions of this seat compute, in plain Lean. -/
import Derived.Test.YtkhdeldobekciaaGreatDoorMK
import Derived.Test.YtkhdeldobekciaaGreatDoorMM
set_option linter.unusedVariables false
set_option linter.unusedSimpArgs false
set_option maxRecDepth 100000
namespace Go.Proofs.YtkhdeldobekciaaGreatDoor
open Go.Vc
abbrev bY : Ty := .pair (.arr 32 (.int .u8)) (.int .i64)
abbrev Chain := List Int × Int
namespace U
def gJ (c : Chain) : Bool := decide (c.2 >= 0) && decide (c.2 <= 1099511627776)
def nI : Chain := (List.replicate 32 0, 0)
def AQ (c : Chain) (e : Event) : List Int := c.1 ++ (num1 (c.2 + 1) ++ qc e)
def lu (c : Chain) (b : List Int) : Chain := (sum b, IntKind.i64.wrap (c.2 + 1))
def aJ (c : Chain) (e : Event) : List Int × Chain × Int := cond (!(bg e) || !(gJ c)) ([], nI, 1) (cond (decide (c.2 = 1099511627776)) ([], nI, 15) (AQ c e, lu c (AQ c e), 0))
def gK (b : List Int) : Int × RS := let n := ak (b.drop 32, 0); (n.1, gG (decide (n.1 < 1) || decide (n.1 > 1099511627776)) n.2)
def ay (b : List Int) : Chain × Event × Int := cond (decide (b.length < 32)) (nI, zeroE, 2) (cond (decide ((gK b).2.2 = 0)) (cond (decide ((bH (b.drop 40)).2 = 0)) ((b.take 32, (gK b).1 - 1), (bH (b.drop 40)).1, 0) (nI, zeroE, (bH (b.drop 40)).2)) (nI, zeroE, (gK b).2.2))
def aO (c : Chain) (b : List Int) : Chain × Event × Int := cond (decide ((ay b).2.2 = 0)) (cond (decide ((ay b).1 = c)) (lu c b, (ay b).2.1, 0) (nI, zeroE, 11)) (nI, zeroE, (ay b).2.2)
end U
def D8 (c : Chain) : Done := rB (U.gJ c)
def NQ : Vc.Sum := .pure [bY] false fun x => D8 x
def NR (c : Chain) : Nat -> List V -> Nat -> Option Vc.Loop := bZ
def wV : List (Nat × Ent) := (10, .sum NQ) :: Fv
def H6 (c : Chain) : Done := rB (U.gJ c)
def QH : Vc.Sum := .pure [bY] false fun x => H6 x
def QI (c : Chain) : Nat -> List V -> Nat -> Option Vc.Loop := bZ
def zF : List (Nat × Ent) := (11, .sum QH) :: wV
def wW (c : Chain) (b : List Int) : Done := ⟨[b.length <= 1000000000000], .v (.of false bY (U.lu c b)), [], []⟩
def NS : Vc.Sum := .pure [bY, aF] true fun x => wW x.1 x.2
def NT (c : Chain) (b : List Int) : Nat -> List V -> Nat -> Option Vc.Loop := bZ
def wX : List (Nat × Ent) := (20, .sum NS) :: zF
def uo (c : Chain) (e : Event) : Done := ⟨[(U.cO e).length <= 1000000000000, (U.eTo e).length <= 1000000000000], .tup [one (.psl true (.int .u8) (U.aJ c e).1), .of false bY (U.aJ c e).2.1, one (.int .i64 (U.aJ c e).2.2)], [], []⟩
def QJ : Vc.Sum := .pure [bY, bD] true fun x => uo x.1 x.2
def QK (c : Chain) (e : Event) : Nat -> List V -> Nat -> Option Vc.Loop := bZ
def zG : List (Nat × Ent) := (7, .sum QJ) :: wX
def zH (b : List Int) : Done := ⟨[b.length <= 1000000000], .tup [.of false bY (U.ay b).1, .of false bD (U.ay b).2.1, one (.int .i64 (U.ay b).2.2)], [], []⟩
def QL : Vc.Sum := .pure [aF] true fun x => zH x
def QM (b : List Int) : Nat -> List V -> Nat -> Option Vc.Loop := bZ
def zI : List (Nat × Ent) := (12, .sum QL) :: zG
def zJ (c : Chain) (b : List Int) : Done := ⟨[b.length <= 1000000000], .tup [.of false bY (U.aO c b).1, .of false bD (U.aO c b).2.1, one (.int .i64 (U.aO c b).2.2)], [], []⟩
def QN : Vc.Sum := .pure [bY, aF] true fun x => zJ x.1 x.2
def QO (c : Chain) (b : List Int) : Nat -> List V -> Nat -> Option Vc.Loop := bZ
def zK : List (Nat × Ent) := (14, .sum QN) :: zI
def H7 (b : List Int) (k : Int) (n : Int) : Done := ⟨[], .one (.own 1), [.obj [.arr 32 false (.int .u8) b, .int .i64 k]], [.row 5 (.int .u8) true true (b ++ U.num1 n)]⟩
def NU (b : List Int) (k : Int) (n : Int) : List V := [⟨false, [.asl 0 0 0 32]⟩, ⟨false, [.int .i64 n]⟩]
def NV (b : List Int) (k : Int) (n : Int) : List Entry := [.obj [.arr 32 false (.int .u8) b, .int .i64 k]]
def QS (b : List Int) (k : Int) (n : Int) : Nat -> List V -> Nat -> Option Vc.Loop := bZ
def D9 : List V -> List Entry -> Option Done
 | [⟨false, [.asl n1 n2 n3 n4]⟩, ⟨false, [.int .i64 n]⟩], [.obj [.arr n5 false (.int .u8) b, .int .i64 k]] => cond (Nat.beq n1 0 && Nat.beq n2 0 && Nat.beq n3 0 && Nat.beq n4 32 && Nat.beq n5 32) (some (H7 b k n)) none
 | _, _ => none
theorem H8 {args : List V} {es : List Entry} {d : Done} (h : D9 args es = some d) : ∃ b k n, args = NU b k n /\ es = NV b k n /\ d = H7 b k n := by
 unfold D9 at h
 split at h
 ·obtain ⟨hb, hd⟩ := lZ h; simp only [Bool.and_eq_true, Nat.beq_eq] at hb; (try obtain ⟨⟨⟨⟨rfl, rfl⟩, rfl⟩, rfl⟩, rfl⟩ := hb); subst hd; (try subst_vars); exact ⟨_, _, _, rfl, rfl, rfl⟩
 ·cases h
def BG (args : List V) (es : List Entry) : Option Done := orE (D9 args es) (none)
def Uk : Vc.Sum := .gen BG
def BH : List (Nat × Ent) := (22, .sum Uk) :: zK
def vZ (c : Chain) (e : Event) : Done := ⟨[(U.cO e).length <= 1000000000000, (U.eTo e).length <= 1000000000000], .tup [one (.psl true (.int .u8) (U.aJ c e).1), .of false bY (U.aJ c e).2.1, one (.int .i64 (U.aJ c e).2.2)], [], []⟩
def Ul : Vc.Sum := .pure [bY, bD] true fun x => vZ x.1 x.2
def Um (c : Chain) (e : Event) : Nat -> List V -> Nat -> Option Vc.Loop := bZ
def BI : List (Nat × Ent) := (8, .sum Ul) :: BH
end Go.Proofs.YtkhdeldobekciaaGreatDoor
set_option maxRecDepth 100000
set_option linter.unusedVariables false
namespace Go.Proofs.YtkhdeldobekciaaGreatDoor
open Go.Vc
def AU (c : Chain) : Prop := (bif decide (c.2 >= (0 : Int)) then decide (c.2 <= (1099511627776 : Int)) else false) = U.gJ c /\ True
def Ea (c : Chain) : Prop := (bif decide (c.2 >= (0 : Int)) then decide (c.2 <= (1099511627776 : Int)) else false) = U.gJ c /\ True
def KC (c : Chain) (b : List Int) : Prop := b.length <= (1000000000000 : Nat) /\ U.sum b = (U.lu c b).1 /\ IntKind.i64.wrap (c.2.add (1 : Int)) = (U.lu c b).2 /\ True
def Eb (c : Chain) (e : Event) : Prop := (U.cO e).length <= (1000000000000 : Nat) /\ (U.eTo e).length <= (1000000000000 : Nat) /\ bif bif (U.jE e).2 != (0 : Int) then true else !U.gJ c then [] = (U.aJ c e).1 /\ [(0 : Int), (0 : Int), (0 : Int), (0 : Int), (0 : Int), (0 : Int), (0 : Int), (0 : Int), (0 : Int), (0 : Int), (0 : Int), (0 : Int), (0 : Int), (0 : Int), (0 : Int), (0 :
 Int), (0 : Int), (0 : Int), (0 : Int), (0 : Int), (0 : Int), (0 : Int), (0 : Int), (0 : Int), (0 : Int), (0 : Int), (0 : Int), (0 : Int), (0 : Int), (0 : Int), (0 : Int), (0 : Int)] = (U.aJ c e).2.1.1 /\ (0 : Int) = (U.aJ c e).2.1.2 /\ (1 : Int) = (U.aJ c e).2.2 /\ True else bif decide (c.2 = (1099511627776 : Int)) then [] = (U.aJ c e).1 /\ [(0 : Int), (0 : Int), (0 : Int), (0 :
 Int), (0 : Int), (0 : Int), (0 : Int), (0 : Int), (0 : Int), (0 : Int), (0 : Int), (0 : Int), (0 : Int), (0 : Int), (0 : Int), (0 : Int), (0 : Int), (0 : Int), (0 : Int), (0 : Int), (0 : Int), (0 : Int), (0 : Int), (0 : Int), (0 : Int), (0 : Int), (0 : Int), (0 : Int), (0 : Int), (0 : Int), (0 : Int), (0 : Int)] = (U.aJ c e).2.1.1 /\ (0 : Int) = (U.aJ c e).2.1.2 /\ (15 : Int) = (U.aJ c
 e).2.2 /\ True else (0 : Int) <= (0 : Int) /\ (0 : Int) <= (↑(32 : Nat) : Int) /\ (↑(32 : Nat) : Int) <= (↑(32 : Nat) : Int) /\ (List.take ((↑(32 : Nat) : Int).toNat.sub (0 : Nat)) (List.drop (0 : Nat) c.1)).length <= (1000000000000 : Nat) /\ (1 : Nat) <= (100000000000 : Nat) /\ (((List.take ((↑(32 : Nat) : Int).toNat.sub (0 : Nat)) (List.drop (0 : Nat) c.1)).append (U.nums ([(0 : Int)].set (0 : Nat)
 (IntKind.i64.wrap (c.2.add (1 : Int)))))).append ((U.jE e).1.append [])).length <= (70000000000000 : Nat) /\ (((List.take ((↑(32 : Nat) : Int).toNat.sub (0 : Nat)) (List.drop (0 : Nat) c.1)).append (U.nums ([(0 : Int)].set (0 : Nat) (IntKind.i64.wrap (c.2.add (1 : Int)))))).append ((U.jE e).1.append [])).length <= (1000000000000 : Nat) /\ ((List.take ((↑(32 : Nat) : Int).toNat.sub (0 : Nat))
 (List.drop (0 : Nat) c.1)).append (U.nums ([(0 : Int)].set (0 : Nat) (IntKind.i64.wrap (c.2.add (1 : Int)))))).append ((U.jE e).1.append []) = (U.aJ c e).1 /\ (U.lu c (((List.take ((↑(32 : Nat) : Int).toNat.sub (0 : Nat)) (List.drop (0 : Nat) c.1)).append (U.nums ([(0 : Int)].set (0 : Nat) (IntKind.i64.wrap (c.2.add (1 : Int)))))).append ((U.jE e).1.append []))).1 = (U.aJ c
 e).2.1.1 /\ (U.lu c (((List.take ((↑(32 : Nat) : Int).toNat.sub (0 : Nat)) (List.drop (0 : Nat) c.1)).append (U.nums ([(0 : Int)].set (0 : Nat) (IntKind.i64.wrap (c.2.add (1 : Int)))))).append ((U.jE e).1.append []))).2 = (U.aJ c e).2.1.2 /\ (0 : Int) = (U.aJ c e).2.2 /\ True
def Ec (b : List Int) : Prop := bif decide ((↑b.length : Int) < (32 : Int)) then [(0 : Int), (0 : Int), (0 : Int), (0 : Int), (0 : Int), (0 : Int), (0 : Int), (0 : Int), (0 : Int), (0 : Int), (0 : Int), (0 : Int), (0 : Int), (0 : Int), (0 : Int), (0 : Int), (0 : Int), (0 : Int), (0 : Int), (0 : Int), (0 : Int), (0 : Int), (0 : Int), (0 : Int), (0 : Int), (0 : Int), (0 : Int), (0 : Int),
 (0 : Int), (0 : Int), (0 : Int), (0 : Int)] = (U.ay b).1.1 /\ (0 : Int) = (U.ay b).1.2 /\ (0 : Int) = (U.ay b).2.1.1 /\ (0 : Int) = (U.ay b).2.1.2.1 /\ [] = (U.ay b).2.1.2.2.1 /\ [] = (U.ay b).2.1.2.2.2.1 /\ [] = (U.ay b).2.1.2.2.2.2.1 /\ [] = (U.ay b).2.1.2.2.2.2.2.1 /\ (0 : Int) = (U.ay b).2.1.2.2.2.2.2.2.1 /\ (0 : Int) = (U.ay b).2.1.2.2.2.2.2.2.2.1 /\ (0
 : Int) = (U.ay b).2.1.2.2.2.2.2.2.2.2.1 /\ (0 : Int) = (U.ay b).2.1.2.2.2.2.2.2.2.2.2.1 /\ [] = (U.ay b).2.1.2.2.2.2.2.2.2.2.2.2 /\ (2 : Int) = (U.ay b).2.2 /\ True else (0 : Int) <= (32 : Int) /\ (32 : Int) <= (↑b.length : Int) /\ (↑b.length : Int) <= (↑b.length : Int) /\ bif (U.gG (bif decide ((U.ak (List.take ((↑b.length : Int).toNat.sub (32 : Nat)) (List.drop (32 : Nat) b), (0 :
 Int))).1 < (1 : Int)) then true else decide ((U.ak (List.take ((↑b.length : Int).toNat.sub (32 : Nat)) (List.drop (32 : Nat) b), (0 : Int))).1 > (1099511627776 : Int))) (U.ak (List.take ((↑b.length : Int).toNat.sub (32 : Nat)) (List.drop (32 : Nat) b), (0 : Int))).2).2 != (0 : Int) then [(0 : Int), (0 : Int), (0 : Int), (0 : Int), (0 : Int), (0 : Int), (0 : Int), (0 : Int), (0 : Int), (0 :
 Int), (0 : Int), (0 : Int), (0 : Int), (0 : Int), (0 : Int), (0 : Int), (0 : Int), (0 : Int), (0 : Int), (0 : Int), (0 : Int), (0 : Int), (0 : Int), (0 : Int), (0 : Int), (0 : Int), (0 : Int), (0 : Int), (0 : Int), (0 : Int), (0 : Int), (0 : Int)] = (U.ay b).1.1 /\ (0 : Int) = (U.ay b).1.2 /\ (0 : Int) = (U.ay b).2.1.1 /\ (0 : Int) = (U.ay b).2.1.2.1 /\ [] = (U.ay b).2.1.2.2.1
 /\ [] = (U.ay b).2.1.2.2.2.1 /\ [] = (U.ay b).2.1.2.2.2.2.1 /\ [] = (U.ay b).2.1.2.2.2.2.2.1 /\ (0 : Int) = (U.ay b).2.1.2.2.2.2.2.2.1 /\ (0 : Int) = (U.ay b).2.1.2.2.2.2.2.2.2.1 /\ (0 : Int) = (U.ay b).2.1.2.2.2.2.2.2.2.2.1 /\ (0 : Int) = (U.ay b).2.1.2.2.2.2.2.2.2.2.2.1 /\ [] = (U.ay b).2.1.2.2.2.2.2.2.2.2.2.2 /\ (U.gG (bif decide ((U.ak (List.take ((↑b.length
 : Int).toNat.sub (32 : Nat)) (List.drop (32 : Nat) b), (0 : Int))).1 < (1 : Int)) then true else decide ((U.ak (List.take ((↑b.length : Int).toNat.sub (32 : Nat)) (List.drop (32 : Nat) b), (0 : Int))).1 > (1099511627776 : Int))) (U.ak (List.take ((↑b.length : Int).toNat.sub (32 : Nat)) (List.drop (32 : Nat) b), (0 : Int))).2).2 = (U.ay b).2.2 /\ True else (0 : Int) <= (40 : Int) /\ (40 : Int)
 <= (↑b.length : Int) /\ (↑b.length : Int) <= (↑b.length : Int) /\ (List.take ((↑b.length : Int).toNat.sub (40 : Nat)) (List.drop (40 : Nat) b)).length <= (1000000000 : Nat) /\ bif (U.bH (List.take ((↑b.length : Int).toNat.sub (40 : Nat)) (List.drop (40 : Nat) b))).2 != (0 : Int) then [(0 : Int), (0 : Int), (0 : Int), (0 : Int), (0 : Int), (0 : Int), (0 : Int), (0 : Int), (0 : Int), (0 : Int), (0 :
 Int), (0 : Int), (0 : Int), (0 : Int), (0 : Int), (0 : Int), (0 : Int), (0 : Int), (0 : Int), (0 : Int), (0 : Int), (0 : Int), (0 : Int), (0 : Int), (0 : Int), (0 : Int), (0 : Int), (0 : Int), (0 : Int), (0 : Int), (0 : Int), (0 : Int)] = (U.ay b).1.1 /\ (0 : Int) = (U.ay b).1.2 /\ (0 : Int) = (U.ay b).2.1.1 /\ (0 : Int) = (U.ay b).2.1.2.1 /\ [] = (U.ay b).2.1.2.2.1 /\ [] =
 (U.ay b).2.1.2.2.2.1 /\ [] = (U.ay b).2.1.2.2.2.2.1 /\ [] = (U.ay b).2.1.2.2.2.2.2.1 /\ (0 : Int) = (U.ay b).2.1.2.2.2.2.2.2.1 /\ (0 : Int) = (U.ay b).2.1.2.2.2.2.2.2.2.1 /\ (0 : Int) = (U.ay b).2.1.2.2.2.2.2.2.2.2.1 /\ (0 : Int) = (U.ay b).2.1.2.2.2.2.2.2.2.2.2.1 /\ [] = (U.ay b).2.1.2.2.2.2.2.2.2.2.2.2 /\ (U.bH (List.take ((↑b.length : Int).toNat.sub (40 : Nat))
 (List.drop (40 : Nat) b))).2 = (U.ay b).2.2 /\ True else (32 : Nat) <= b.length /\ List.take (32 : Nat) b = (U.ay b).1.1 /\ IntKind.i64.wrap ((U.ak (List.take ((↑b.length : Int).toNat.sub (32 : Nat)) (List.drop (32 : Nat) b), (0 : Int))).1.sub (1 : Int)) = (U.ay b).1.2 /\ (U.bH (List.take ((↑b.length : Int).toNat.sub (40 : Nat)) (List.drop (40 : Nat) b))).1.1 = (U.ay b).2.1.1 /\
 (U.bH (List.take ((↑b.length : Int).toNat.sub (40 : Nat)) (List.drop (40 : Nat) b))).1.2.1 = (U.ay b).2.1.2.1 /\ (U.bH (List.take ((↑b.length : Int).toNat.sub (40 : Nat)) (List.drop (40 : Nat) b))).1.2.2.1 = (U.ay b).2.1.2.2.1 /\ (U.bH (List.take ((↑b.length : Int).toNat.sub (40 : Nat)) (List.drop (40 : Nat) b))).1.2.2.2.1 = (U.ay b).2.1.2.2.2.1 /\ (U.bH (List.take ((↑b.length :
 Int).toNat.sub (40 : Nat)) (List.drop (40 : Nat) b))).1.2.2.2.2.1 = (U.ay b).2.1.2.2.2.2.1 /\ (U.bH (List.take ((↑b.length : Int).toNat.sub (40 : Nat)) (List.drop (40 : Nat) b))).1.2.2.2.2.2.1 = (U.ay b).2.1.2.2.2.2.2.1 /\ (U.bH (List.take ((↑b.length : Int).toNat.sub (40 : Nat)) (List.drop (40 : Nat) b))).1.2.2.2.2.2.2.1 = (U.ay b).2.1.2.2.2.2.2.2.1 /\ (U.bH (List.take
 ((↑b.length : Int).toNat.sub (40 : Nat)) (List.drop (40 : Nat) b))).1.2.2.2.2.2.2.2.1 = (U.ay b).2.1.2.2.2.2.2.2.2.1 /\ (U.bH (List.take ((↑b.length : Int).toNat.sub (40 : Nat)) (List.drop (40 : Nat) b))).1.2.2.2.2.2.2.2.2.1 = (U.ay b).2.1.2.2.2.2.2.2.2.2.1 /\ (U.bH (List.take ((↑b.length : Int).toNat.sub (40 : Nat)) (List.drop (40 : Nat) b))).1.2.2.2.2.2.2.2.2.2.1 = (U.ay
 b).2.1.2.2.2.2.2.2.2.2.2.1 /\ (U.bH (List.take ((↑b.length : Int).toNat.sub (40 : Nat)) (List.drop (40 : Nat) b))).1.2.2.2.2.2.2.2.2.2.2 = (U.ay b).2.1.2.2.2.2.2.2.2.2.2.2 /\ (0 : Int) = (U.ay b).2.2 /\ True
def Ed (c : Chain) (b : List Int) : Prop := b.length <= (1000000000 : Nat) /\ bif (U.ay b).2.2 != (0 : Int) then [(0 : Int), (0 : Int), (0 : Int), (0 : Int), (0 : Int), (0 : Int), (0 : Int), (0 : Int), (0 : Int), (0 : Int), (0 : Int), (0 : Int), (0 : Int), (0 : Int), (0 : Int), (0 : Int), (0 : Int), (0 : Int), (0 : Int), (0 : Int), (0 : Int), (0 : Int), (0 : Int), (0 : Int), (0 :
 Int), (0 : Int), (0 : Int), (0 : Int), (0 : Int), (0 : Int), (0 : Int), (0 : Int)] = (U.aO c b).1.1 /\ (0 : Int) = (U.aO c b).1.2 /\ (0 : Int) = (U.aO c b).2.1.1 /\ (0 : Int) = (U.aO c b).2.1.2.1 /\ [] = (U.aO c b).2.1.2.2.1 /\ [] = (U.aO c b).2.1.2.2.2.1 /\ [] = (U.aO c b).2.1.2.2.2.2.1 /\ [] = (U.aO c b).2.1.2.2.2.2.2.1 /\ (0 : Int) = (U.aO c
 b).2.1.2.2.2.2.2.2.1 /\ (0 : Int) = (U.aO c b).2.1.2.2.2.2.2.2.2.1 /\ (0 : Int) = (U.aO c b).2.1.2.2.2.2.2.2.2.2.1 /\ (0 : Int) = (U.aO c b).2.1.2.2.2.2.2.2.2.2.2.1 /\ [] = (U.aO c b).2.1.2.2.2.2.2.2.2.2.2.2 /\ (U.ay b).2.2 = (U.aO c b).2.2 /\ True else bif !((U.ay b).1.1.beq c.1 && (decide ((U.ay b).1.2 = c.2) && true)) then [(0 : Int), (0 : Int), (0 : Int), (0 :
 Int), (0 : Int), (0 : Int), (0 : Int), (0 : Int), (0 : Int), (0 : Int), (0 : Int), (0 : Int), (0 : Int), (0 : Int), (0 : Int), (0 : Int), (0 : Int), (0 : Int), (0 : Int), (0 : Int), (0 : Int), (0 : Int), (0 : Int), (0 : Int), (0 : Int), (0 : Int), (0 : Int), (0 : Int), (0 : Int), (0 : Int), (0 : Int), (0 : Int)] = (U.aO c b).1.1 /\ (0 : Int) = (U.aO c b).1.2 /\ (0 : Int) = (U.aO c
 b).2.1.1 /\ (0 : Int) = (U.aO c b).2.1.2.1 /\ [] = (U.aO c b).2.1.2.2.1 /\ [] = (U.aO c b).2.1.2.2.2.1 /\ [] = (U.aO c b).2.1.2.2.2.2.1 /\ [] = (U.aO c b).2.1.2.2.2.2.2.1 /\ (0 : Int) = (U.aO c b).2.1.2.2.2.2.2.2.1 /\ (0 : Int) = (U.aO c b).2.1.2.2.2.2.2.2.2.1 /\ (0 : Int) = (U.aO c b).2.1.2.2.2.2.2.2.2.2.1 /\ (0 : Int) = (U.aO c b).2.1.2.2.2.2.2.2.2.2.2.1 /\ [] =
 (U.aO c b).2.1.2.2.2.2.2.2.2.2.2.2 /\ (11 : Int) = (U.aO c b).2.2 /\ True else b.length <= (1000000000000 : Nat) /\ (U.lu c b).1 = (U.aO c b).1.1 /\ (U.lu c b).2 = (U.aO c b).1.2 /\ (U.ay b).2.1.1 = (U.aO c b).2.1.1 /\ (U.ay b).2.1.2.1 = (U.aO c b).2.1.2.1 /\ (U.ay b).2.1.2.2.1 = (U.aO c b).2.1.2.2.1 /\ (U.ay b).2.1.2.2.2.1 = (U.aO c
 b).2.1.2.2.2.1 /\ (U.ay b).2.1.2.2.2.2.1 = (U.aO c b).2.1.2.2.2.2.1 /\ (U.ay b).2.1.2.2.2.2.2.1 = (U.aO c b).2.1.2.2.2.2.2.1 /\ (U.ay b).2.1.2.2.2.2.2.2.1 = (U.aO c b).2.1.2.2.2.2.2.2.1 /\ (U.ay b).2.1.2.2.2.2.2.2.2.1 = (U.aO c b).2.1.2.2.2.2.2.2.2.1 /\ (U.ay b).2.1.2.2.2.2.2.2.2.2.1 = (U.aO c b).2.1.2.2.2.2.2.2.2.2.1 /\ (U.ay
 b).2.1.2.2.2.2.2.2.2.2.2.1 = (U.aO c b).2.1.2.2.2.2.2.2.2.2.2.1 /\ (U.ay b).2.1.2.2.2.2.2.2.2.2.2.2 = (U.aO c b).2.1.2.2.2.2.2.2.2.2.2.2 /\ (0 : Int) = (U.aO c b).2.2 /\ True
def Ee (b : List Int) (k : Int) (n : Int) : Prop := (Nat.add (0 : Nat) (List.take (32 : Nat) (List.drop (0 : Nat) b)).length).mul (1 : Nat) <= (140737488355328 : Nat) /\ Nat.add (0 : Nat) (List.take (32 : Nat) (List.drop (0 : Nat) b)).length <= maxLen /\ ((1 : Int) <= (8 : Int) /\ (8 : Int) <= (8 : Int)) /\ (0 : Int) <= bJ (pz n (0 : Int)) (4611686018427387904 : Int) /\ ((List.take (32 : Nat)
 (List.drop (0 : Nat) b)).length.add (U.beN (8 : Nat) (bJ (pz n (0 : Int)) (4611686018427387904 : Int))).length).mul (1 : Nat) <= (140737488355328 : Nat) /\ (List.take (32 : Nat) (List.drop (0 : Nat) b)).length.add (U.beN (8 : Nat) (bJ (pz n (0 : Int)) (4611686018427387904 : Int))).length <= maxLen /\ b = b /\ k = k /\ (List.take (32 : Nat) (List.drop (0 : Nat) b)).append (U.beN (8 : Nat) (bJ
 (pz n (0 : Int)) (4611686018427387904 : Int))) = b.append (U.num1 n) /\ True
def H9 (c : Chain) (e : Event) : Prop := (U.cO e).length <= (1000000000000 : Nat) /\ (U.eTo e).length <= (1000000000000 : Nat) /\ bif bif !U.gJ c then true else (U.jE e).2 != (0 : Int) then [] = (U.aJ c e).1 /\ [(0 : Int), (0 : Int), (0 : Int), (0 : Int), (0 : Int), (0 : Int), (0 : Int), (0 : Int), (0 : Int), (0 : Int), (0 : Int), (0 : Int), (0 : Int), (0 : Int), (0 : Int), (0 :
 Int), (0 : Int), (0 : Int), (0 : Int), (0 : Int), (0 : Int), (0 : Int), (0 : Int), (0 : Int), (0 : Int), (0 : Int), (0 : Int), (0 : Int), (0 : Int), (0 : Int), (0 : Int), (0 : Int)] = (U.aJ c e).2.1.1 /\ (0 : Int) = (U.aJ c e).2.1.2 /\ (1 : Int) = (U.aJ c e).2.2 /\ True else bif decide (c.2 = (1099511627776 : Int)) then [] = (U.aJ c e).1 /\ [(0 : Int), (0 : Int), (0 : Int), (0 :
 Int), (0 : Int), (0 : Int), (0 : Int), (0 : Int), (0 : Int), (0 : Int), (0 : Int), (0 : Int), (0 : Int), (0 : Int), (0 : Int), (0 : Int), (0 : Int), (0 : Int), (0 : Int), (0 : Int), (0 : Int), (0 : Int), (0 : Int), (0 : Int), (0 : Int), (0 : Int), (0 : Int), (0 : Int), (0 : Int), (0 : Int), (0 : Int), (0 : Int)] = (U.aJ c e).2.1.1 /\ (0 : Int) = (U.aJ c e).2.1.2 /\ (15 : Int) = (U.aJ c
 e).2.2 /\ True else (0 : Int) <= (0 : Int) /\ (0 : Int) <= (↑(32 : Nat) : Int) /\ (↑(32 : Nat) : Int) <= (↑(32 : Nat) : Int) /\ ((c.1.append (U.num1 (IntKind.i64.wrap (c.2.add (1 : Int))))).length.add (U.jE e).1.length).mul (1 : Nat) <= (140737488355328 : Nat) /\ (c.1.append (U.num1 (IntKind.i64.wrap (c.2.add (1 : Int))))).length.add (U.jE e).1.length <= maxLen /\ ((c.1.append (U.num1 (IntKind.i64.wrap
 (c.2.add (1 : Int))))).append (U.jE e).1).length <= (1000000000000 : Nat) /\ (c.1.append (U.num1 (IntKind.i64.wrap (c.2.add (1 : Int))))).append (U.jE e).1 = (U.aJ c e).1 /\ U.qj (U.wQ ((c.1.append (U.num1 (IntKind.i64.wrap (c.2.add (1 : Int))))).append (U.jE e).1)) = (U.aJ c e).2.1.1 /\ IntKind.i64.wrap (c.2.add (1 : Int)) = (U.aJ c e).2.1.2 /\ (0 : Int) = (U.aJ c e).2.2
 /\ True
end Go.Proofs.YtkhdeldobekciaaGreatDoor
set_option linter.unusedSimpArgs false
set_option linter.unusedVariables false
set_option maxRecDepth 100000
namespace Go.Proofs.YtkhdeldobekciaaGreatDoor
open Go.Vc
open Go.Vc.T
theorem Yu (c : Chain) : AU c := by
 unfold AU U.gJ; rw [dh]; exact ⟨rfl, trivial⟩
theorem aan (c : Chain) : Ea c := by
 unfold Ea U.gJ; rw [dh]; exact ⟨rfl, trivial⟩
theorem Yv (c : Chain) (b : List Int) (h : b.length <= 1000000000000) : KC c b := ⟨h, rfl, rfl, trivial⟩
theorem adz {e : Event} (h : U.bg e = true) : (U.qc e).length <= 50000 := by rw [<- acN]; exact acG h 9
theorem BJ {c : Chain} {e : Event} (h : (!(U.bg e) || !(U.gJ c)) = true) : U.aJ c e = ([], U.nI, 1) := by unfold U.aJ; rw [h]; rfl
theorem QT {c : Chain} {e : Event} (h1 : U.bg e = true) (h2 : U.gJ c = true) (h : c.2 = 1099511627776) : U.aJ c e = ([], U.nI, 15) := by unfold U.aJ; rw [h1, h2, decide_eq_true h]; rfl
theorem Xu {c : Chain} {e : Event} (h1 : U.bg e = true) (h2 : U.gJ c = true) (h : ¬ c.2 = 1099511627776) : U.aJ c e = (U.AQ c e, U.lu c (U.AQ c e), 0) := by unfold U.aJ; rw [h1, h2, decide_eq_false h]; rfl
theorem chR {c : Chain} (h : U.gJ c = true) : 0 <= c.2 /\ c.2 <= 1099511627776 := by
 unfold U.gJ at h; simpa using h
theorem adA {c : Chain} {e : Event} (hl : c.1.length = 32) : (U.AQ c e).length = 40 + (U.qc e).length := by
 unfold U.AQ; rw [List.length_append, List.length_append, dS, hl]; omega
theorem lC (k : Nat) (n : Int) : ∀ x ∈ U.beN k n, Byte x := by
 intro x hx
 obtain ⟨j, hj, rfl⟩ := List.mem_iff_getElem.1 hx
 rw [X9]
 generalize n / 2 ^ (8 * (k - 1 - j)) = z
 exact ⟨by omega, by omega⟩
theorem MH {s : List Int} (h : ∀ x ∈ s, Byte x) : ∀ x ∈ U.text1 s, Byte x := by
 intro x hx
 unfold U.text1 at hx
 rw [List.mem_append] at hx
 rcases hx with hx | hx
 ·exact lC _ _ x hx
 ·exact h x (List.mem_of_mem_take hx)
theorem ah8 (l : List Int) : ∀ x ∈ U.nums l, Byte x := by
 intro x hx
 unfold U.nums at hx
 obtain ⟨y, _, hy⟩ := List.mem_flatMap.1 hx
 exact lC _ _ x hy
theorem ag8 (l : List Range) : ∀ x ∈ U.pairs l, Byte x := by
 intro x hx
 unfold U.pairs at hx
 obtain ⟨y, _, hy⟩ := List.mem_flatMap.1 hx
 rcases List.mem_append.1 hy with hy | hy <;> exact lC _ _ x hy
theorem ah9 {e : Event} (he : Valid bD e) (c : Int) : ∀ x ∈ U.jO c e, Byte x := by
 have key : ∀ (b : Bool) (p q : List Int), (∀ x ∈ p, Byte x) -> (∀ x ∈ q, Byte x) -> ∀ x ∈ cond b p q, Byte x := by intro b p q h1 h2; cases b <;> assumption
 have hn : ∀ (n : Int) (q : List Int), (∀ x ∈ q, Byte x) -> ∀ x ∈ U.num1 n ++ q, Byte x := by
  intro n q h x hx
  rcases List.mem_append.1 hx with hx | hx
  ·exact lC _ _ x hx
  ·exact h x hx
 have hb : ∀ x ∈ U.cO e, Byte x := he.2.2.1.1
 have ht : ∀ x ∈ U.eTo e, Byte x := he.2.2.2.1.1
 have hy : ∀ x ∈ U.gX e, Byte x := lT he.2.2.2.2.2.2.2.2.2.2.1
 unfold U.jO
 exact key _ _ _ (MH hb) (key _ _ _ (MH ht) (key _ _ _ (hn _ _ (ah8 _)) (key _ _ _ (hn _ _ (ag8 _)) (key _ _ _ (lC _ _) (key _ _ _ (lC _ _) (key _ _ _ (lC _ _) (key _ _ _ (lC _ _) (MH hy))))))))
theorem aia {e : Event} (he : Valid bD e) : ∀ x ∈ U.qc e, Byte x := by
 intro x hx
 unfold U.qc at hx
 rcases List.mem_append.1 hx with hx | hx
 ·exact lC _ _ x hx
 rcases List.mem_append.1 hx with hx | hx
 ·exact lC _ _ x hx
 obtain ⟨c, _, hc⟩ := List.mem_flatMap.1 hx
 exact ah9 he c x hc
theorem aib {c : Chain} {e : Event} (hc : ∀ x ∈ c.1, Byte x) (he : Valid bD e) : ∀ x ∈ U.AQ c e, Byte x := by
 intro x hx
 unfold U.AQ at hx
 rcases List.mem_append.1 hx with hx | hx
 ·exact hc x hx
 rcases List.mem_append.1 hx with hx | hx
 ·exact lC _ _ x hx
 ·exact aia he x hx
theorem akr {c : Chain} {e : Event} (hc : Valid bY c) (he : Valid bD e) : ∀ x ∈ U.AQ c e, Valid (.int .u8) x :=
 fun x hx => aib (lT hc.1.1) he x hx
theorem Va {α : Type} (l : List α) {k : Nat} (h : l.length <= k) : l.take k = l := List.take_of_length_le h
theorem aao {b : List Int} (h : b.length < 32) : U.ay b = (U.nI, U.zeroE, 2) := by unfold U.ay; rw [decide_eq_true h]; rfl
theorem adB {b : List Int} (h : ¬ b.length < 32) (h2 : ¬ (U.gK b).2.2 = 0) : U.ay b = (U.nI, U.zeroE, (U.gK b).2.2) := by unfold U.ay; rw [decide_eq_false h, decide_eq_false h2]; rfl
theorem ag9 {b : List Int} (h : ¬ b.length < 32) (h2 : (U.gK b).2.2 = 0) (h3 : ¬ (U.bH (b.drop 40)).2 = 0) : U.ay b = (U.nI, U.zeroE, (U.bH (b.drop 40)).2) := by unfold U.ay; rw [decide_eq_false h, decide_eq_true h2, decide_eq_false h3]; rfl
theorem aha {b : List Int} (h : ¬ b.length < 32) (h2 : (U.gK b).2.2 = 0) (h3 : (U.bH (b.drop 40)).2 = 0) : U.ay b = ((b.take 32, (U.gK b).1 - 1), (U.bH (b.drop 40)).1, 0) := by unfold U.ay; rw [decide_eq_false h, decide_eq_true h2, decide_eq_true h3]; rfl
theorem ahb {b : List Int} (h : ¬ b.length < 32) (h2 : (U.gK b).2.2 = 0) : 40 <= b.length /\ (U.gK b).2.1 = b.drop 40 /\ 1 <= (U.gK b).1 /\ (U.gK b).1 <= 1099511627776 := by
 have hd : (b.drop 32).drop 8 = b.drop 40 := by rw [List.drop_drop]
 have hl : (b.drop 32).length = b.length - 32 := List.length_drop
 unfold U.gK U.gG at *
 simp only [] at *
 unfold U.ak at *
 simp only [decide_true, cond_true] at *
 by_cases h8 : (b.drop 32).length < 8
 ·rw [decide_eq_true h8] at h2; simp at h2
 ·rw [decide_eq_false h8] at h2 ⊢
  simp only [cond_false] at h2 ⊢
  by_cases hv : U.aT ((b.drop 32).take 8) > 4611686018427387904
  ·rw [decide_eq_true hv] at h2; simp at h2
  ·rw [decide_eq_false hv] at h2 ⊢
   simp only [cond_false, decide_true, Bool.true_and] at h2 ⊢
   cases hb : (decide (U.aT ((b.drop 32).take 8) < 1) || decide (U.aT ((b.drop 32).take 8) > 1099511627776)) with
   | true => rw [hb] at h2; simp at h2
   | false =>
     simp only [Bool.or_eq_false_iff, decide_eq_false_iff_not] at hb
     simp only [cond_false]
     exact ⟨by omega, hd, by omega, by omega⟩
theorem ajE (b : List Int) (k : Nat) : List.take ((b.length : Int).toNat.sub k) (List.drop k b) = b.drop k := aaO b k
theorem aap (c : Chain) (e : Event) (hv : qx [bY, bD] (c, e)) (h1 : (U.cO e).length <= 1000000000000) (h2 : (U.eTo e).length <= 1000000000000) : Eb c e := by
 unfold Eb
 have hl : c.1.length = 32 := hv.1.1.2
 refine ⟨h1, h2, ?_⟩
 rw [dN]
 cases hr : U.bg e with
 | false => rw [Xa hr, BJ (by rw [hr]; rfl)]; exact ⟨rfl, rfl, rfl, rfl, trivial⟩
 | true =>
   rw [W9 hr]
   cases hc : U.gJ c with
   | false => rw [BJ (by rw [hc]; simp)]; exact ⟨rfl, rfl, rfl, rfl, trivial⟩
   | true =>
     obtain ⟨hc0, hc1⟩ := chR hc
     by_cases hm : c.2 = 1099511627776
     ·rw [decide_eq_true hm, QT hr hc hm]; exact ⟨rfl, rfl, rfl, rfl, trivial⟩
     ·rw [decide_eq_false hm, Xu hr hc hm]
      have hle := adz hr
      have hB : ((List.take ((↑(32 : Nat) : Int).toNat.sub 0) (List.drop 0 c.1)).append (U.nums ([(0 : Int)].set 0 (IntKind.i64.wrap (c.2.add 1))))).append ((U.qc e).append []) = U.AQ c e := by
       rw [show List.take ((↑(32 : Nat) : Int).toNat.sub 0) (List.drop 0 c.1) = c.1 from Va c.1 (Nat.le_of_eq hl)]
       unfold U.AQ
       rw [aX, dn (x := c.2 + 1) (by omega) (by omega)]
       simp only [bT, List.append_nil, List.append_assoc]
       congr 2
       show U.nums [c.2 + 1] = _
       simp [U.nums]
      have hlen := adA (c := c) (e := e) hl
      show (0 : Int) <= 0 /\ _
      rw [hB]
      refine ⟨by omega, by omega, by omega, ?_, by omega, by omega, by omega, rfl, rfl, rfl, rfl, trivial⟩
      rw [show List.take ((↑(32 : Nat) : Int).toNat.sub 0) (List.drop 0 c.1) = c.1 from Va c.1 (Nat.le_of_eq hl)]; omega
theorem aaq (b : List Int) (hb : ∀ x ∈ b, Valid (.int .u8) x) (hl : b.length <= 1000000000) : Ec b := by
 unfold Ec
 simp only [ajE]
 by_cases h32 : b.length < 32
 ·rw [decide_eq_true (by omega : (b.length : Int) < 32), aao h32]; (repeat' apply And.intro) <;> first | rfl | trivial
 ·rw [decide_eq_false (by omega : ¬ (b.length : Int) < 32)]
  refine ⟨by omega, by omega, by omega, ?_⟩
  rw [dN]
  show bif (U.gK b).2.2 != 0 then _ else _
  by_cases h0 : (U.gK b).2.2 = 0
  ·obtain ⟨g1, g2, g3, g4⟩ := ahb h32 h0
   rw [h0]
   show (0 : Int) <= 40 /\ _
   refine ⟨by omega, by omega, by omega, by rw [List.length_drop]; omega, ?_⟩
   by_cases hd : (U.bH (b.drop 40)).2 = 0
   ·rw [hd, aha h32 h0 hd]
    have hw : IntKind.i64.wrap ((U.ak (b.drop 32, 0)).1.sub 1) = (U.gK b).1 - 1 := dn (x := (U.gK b).1 - 1) (by omega) (by omega)
    rw [hw]
    refine ⟨by omega, rfl, rfl, ?_⟩
    (repeat' apply And.intro) <;> first | rfl | trivial
   ·rw [ag9 h32 h0 hd, show ((U.bH (b.drop 40)).2 != 0) = true from bne_iff_ne.2 hd]
    (repeat' apply And.intro) <;> first | rfl | trivial
  ·rw [adB h32 h0, show ((U.gK b).2.2 != 0) = true from bne_iff_ne.2 h0]
   (repeat' apply And.intro) <;> first | rfl | trivial
theorem ae1 {c : Chain} {b : List Int} (h : ¬ (U.ay b).2.2 = 0) : U.aO c b = (U.nI, U.zeroE, (U.ay b).2.2) := by unfold U.aO; rw [decide_eq_false h]; rfl
theorem ahc {c : Chain} {b : List Int} (h : (U.ay b).2.2 = 0) (h2 : ¬ (U.ay b).1 = c) : U.aO c b = (U.nI, U.zeroE, 11) := by unfold U.aO; rw [decide_eq_true h, decide_eq_false h2]; rfl
theorem ahd {c : Chain} {b : List Int} (h : (U.ay b).2.2 = 0) (h2 : (U.ay b).1 = c) : U.aO c b = (U.lu c b, (U.ay b).2.1, 0) := by unfold U.aO; rw [decide_eq_true h, decide_eq_true h2]; rfl
theorem aic (x c : Chain) : (x.1.beq c.1 && (decide (x.2 = c.2) && true)) = decide (x = c) := by
 rw [ajA, Bool.eq_iff_iff]
 simp only [Bool.and_true, Bool.and_eq_true, decide_eq_true_eq]
 constructor
 ·rintro ⟨h1, h2⟩; exact Prod.ext h1 h2
 ·rintro rfl; exact ⟨rfl, rfl⟩
theorem aar (c : Chain) (b : List Int) (hv : qx [bY, aF] (c, b)) (hl : b.length <= 1000000000) : Ed c b := by
 unfold Ed
 refine ⟨hl, ?_⟩
 rw [aic]
 by_cases h0 : (U.ay b).2.2 = 0
 ·rw [h0]
  by_cases he : (U.ay b).1 = c
  ·rw [decide_eq_true he, ahd h0 he]
   show b.length <= 1000000000000 /\ _
   refine ⟨by omega, ?_⟩
   (repeat' apply And.intro) <;> first | rfl | trivial
  ·rw [decide_eq_false he, ahc h0 he]
   (repeat' apply And.intro) <;> first | rfl | trivial
 ·rw [ae1 h0, show ((U.ay b).2.2 != 0) = true from bne_iff_ne.2 h0]
  (repeat' apply And.intro) <;> first | rfl | trivial
theorem aiT : U.Dk = x9 := by unfold U.Dk; decide +kernel
theorem aie : U.consts = IG := by unfold U.consts; decide +kernel
theorem KD (a b : Int) : U.dB a b = ((BitVec.ofInt 32 a ^^^ BitVec.ofInt 32 b).toNat : Int) := by
 show IntKind.wrap .u32 ((BitVec.ofInt 32 a ^^^ BitVec.ofInt 32 b).toNat : Int) = _
 rw [wrap_u32]; have := (BitVec.ofInt 32 a ^^^ BitVec.ofInt 32 b).isLt; omega
theorem Ia (a b : Int) : U.eY a b = ((BitVec.ofInt 32 a &&& BitVec.ofInt 32 b).toNat : Int) := by
 show IntKind.wrap .u32 ((BitVec.ofInt 32 a &&& BitVec.ofInt 32 b).toNat : Int) = _
 rw [wrap_u32]; have := (BitVec.ofInt 32 a &&& BitVec.ofInt 32 b).isLt; omega
theorem aja (a b : Int) : U.UR a b = ((BitVec.ofInt 32 a ||| BitVec.ofInt 32 b).toNat : Int) := by
 show IntKind.wrap .u32 ((BitVec.ofInt 32 a ||| BitVec.ofInt 32 b).toNat : Int) = _
 rw [wrap_u32]; have := (BitVec.ofInt 32 a ||| BitVec.ofInt 32 b).isLt; omega
theorem afq (x : BitVec 32) : BitVec.ofInt 32 (x.toNat : Int) = x := by rw [BitVec.ofInt_natCast, BitVec.ofNat_toNat, BitVec.setWidth_eq]
theorem ajF : BitVec.ofInt 32 4294967295 = BitVec.allOnes 32 := by decide +kernel
theorem akL (e f g : Int) : U.dB g (U.eY e (U.dB f g)) = U.dB (U.eY e f) (U.eY (U.agO e) g) := by
 show _ = U.dB (U.eY e f) (U.eY (U.dB 4294967295 e) g)
 rw [KD g, Ia e (U.dB f g), KD f g, KD (U.eY e f), Ia e f, Ia _ g, KD 4294967295 e, ajF]
 simp only [afq]
 congr 2
 refine BitVec.eq_of_getLsbD_eq fun i hi => ?_
 simp only [BitVec.getLsbD_xor, BitVec.getLsbD_and, BitVec.getLsbD_allOnes, hi, decide_true]
 cases (BitVec.ofInt 32 e).getLsbD i <;> cases (BitVec.ofInt 32 f).getLsbD i <;> cases (BitVec.ofInt 32 g).getLsbD i <;> rfl
theorem aks (a b c : Int) : U.UR (U.eY a b) (U.eY c (U.UR a b)) = U.dB (U.dB (U.eY a b) (U.eY a c)) (U.eY b c) := by
 rw [aja (U.eY a b), Ia c, aja a b, KD (U.dB _ _), KD (U.eY a b), Ia a b, Ia a c, Ia b c]
 simp only [afq]
 congr 2
 refine BitVec.eq_of_getLsbD_eq fun i hi => ?_
 simp only [BitVec.getLsbD_xor, BitVec.getLsbD_and, BitVec.getLsbD_or]
 cases (BitVec.ofInt 32 a).getLsbD i <;> cases (BitVec.ofInt 32 b).getLsbD i <;> cases (BitVec.ofInt 32 c).getLsbD i <;> rfl
theorem akt {x : Int} (h : 0 <= x /\ x <= 4294967295) : U.right x 6 = U.rot x 6 := by
 have e1 : T.Ah .u64 (IntKind.wrap .u64 (IntKind.wrap .i64 (Int.sub 0 6))) 31 = 26 := by decide +kernel
 have e2 : U.shl .u32 x 26 = 2 ^ 26 * (x % 64) := by
  show IntKind.wrap .u32 (x * 67108864) = _
  rw [wrap_u32]; omega
 have e3 : U.shr .u32 x 6 = x / 64 := by
  show Int.fdiv x 64 = _
  rw [Int.fdiv_eq_ediv_of_nonneg _ (by omega)]
 unfold U.right U.rotl
 simp only [e1]
 show T.orK .u32 (U.shl .u32 x 26) (U.shr .u32 x 6) = IntKind.wrap .u32 (U.shr .u32 x 6 + U.shl .u32 x 26)
 rw [e2, e3, iH 26 (by omega) (by omega) (by omega) (by omega), wrap_u32]; omega
theorem ajG {x : Int} (h : 0 <= x /\ x <= 4294967295) : U.right x 11 = U.rot x 11 := by
 have e1 : T.Ah .u64 (IntKind.wrap .u64 (IntKind.wrap .i64 (Int.sub 0 11))) 31 = 21 := by decide +kernel
 have e2 : U.shl .u32 x 21 = 2 ^ 21 * (x % 2048) := by
  show IntKind.wrap .u32 (x * 2097152) = _
  rw [wrap_u32]; omega
 have e3 : U.shr .u32 x 11 = x / 2048 := by
  show Int.fdiv x 2048 = _
  rw [Int.fdiv_eq_ediv_of_nonneg _ (by omega)]
 unfold U.right U.rotl
 simp only [e1]
 show T.orK .u32 (U.shl .u32 x 21) (U.shr .u32 x 11) = IntKind.wrap .u32 (U.shr .u32 x 11 + U.shl .u32 x 21)
 rw [e2, e3, iH 21 (by omega) (by omega) (by omega) (by omega), wrap_u32]; omega
theorem ajH {x : Int} (h : 0 <= x /\ x <= 4294967295) : U.right x 25 = U.rot x 25 := by
 have e1 : T.Ah .u64 (IntKind.wrap .u64 (IntKind.wrap .i64 (Int.sub 0 25))) 31 = 7 := by decide +kernel
 have e2 : U.shl .u32 x 7 = 2 ^ 7 * (x % 33554432) := by
  show IntKind.wrap .u32 (x * 128) = _
  rw [wrap_u32]; omega
 have e3 : U.shr .u32 x 25 = x / 33554432 := by
  show Int.fdiv x 33554432 = _
  rw [Int.fdiv_eq_ediv_of_nonneg _ (by omega)]
 unfold U.right U.rotl
 simp only [e1]
 show T.orK .u32 (U.shl .u32 x 7) (U.shr .u32 x 25) = IntKind.wrap .u32 (U.shr .u32 x 25 + U.shl .u32 x 7)
 rw [e2, e3, iH 7 (by omega) (by omega) (by omega) (by omega), wrap_u32]; omega
theorem aku {x : Int} (h : 0 <= x /\ x <= 4294967295) : U.right x 2 = U.rot x 2 := by
 have e1 : T.Ah .u64 (IntKind.wrap .u64 (IntKind.wrap .i64 (Int.sub 0 2))) 31 = 30 := by decide +kernel
 have e2 : U.shl .u32 x 30 = 2 ^ 30 * (x % 4) := by
  show IntKind.wrap .u32 (x * 1073741824) = _
  rw [wrap_u32]; omega
 have e3 : U.shr .u32 x 2 = x / 4 := by
  show Int.fdiv x 4 = _
  rw [Int.fdiv_eq_ediv_of_nonneg _ (by omega)]
 unfold U.right U.rotl
 simp only [e1]
 show T.orK .u32 (U.shl .u32 x 30) (U.shr .u32 x 2) = IntKind.wrap .u32 (U.shr .u32 x 2 + U.shl .u32 x 30)
 rw [e2, e3, iH 30 (by omega) (by omega) (by omega) (by omega), wrap_u32]; omega
theorem ajI {x : Int} (h : 0 <= x /\ x <= 4294967295) : U.right x 13 = U.rot x 13 := by
 have e1 : T.Ah .u64 (IntKind.wrap .u64 (IntKind.wrap .i64 (Int.sub 0 13))) 31 = 19 := by decide +kernel
 have e2 : U.shl .u32 x 19 = 2 ^ 19 * (x % 8192) := by
  show IntKind.wrap .u32 (x * 524288) = _
  rw [wrap_u32]; omega
 have e3 : U.shr .u32 x 13 = x / 8192 := by
  show Int.fdiv x 8192 = _
  rw [Int.fdiv_eq_ediv_of_nonneg _ (by omega)]
 unfold U.right U.rotl
 simp only [e1]
 show T.orK .u32 (U.shl .u32 x 19) (U.shr .u32 x 13) = IntKind.wrap .u32 (U.shr .u32 x 13 + U.shl .u32 x 19)
 rw [e2, e3, iH 19 (by omega) (by omega) (by omega) (by omega), wrap_u32]; omega
theorem ajJ {x : Int} (h : 0 <= x /\ x <= 4294967295) : U.right x 22 = U.rot x 22 := by
 have e1 : T.Ah .u64 (IntKind.wrap .u64 (IntKind.wrap .i64 (Int.sub 0 22))) 31 = 10 := by decide +kernel
 have e2 : U.shl .u32 x 10 = 2 ^ 10 * (x % 4194304) := by
  show IntKind.wrap .u32 (x * 1024) = _
  rw [wrap_u32]; omega
 have e3 : U.shr .u32 x 22 = x / 4194304 := by
  show Int.fdiv x 4194304 = _
  rw [Int.fdiv_eq_ediv_of_nonneg _ (by omega)]
 unfold U.right U.rotl
 simp only [e1]
 show T.orK .u32 (U.shl .u32 x 10) (U.shr .u32 x 22) = IntKind.wrap .u32 (U.shr .u32 x 22 + U.shl .u32 x 10)
 rw [e2, e3, iH 10 (by omega) (by omega) (by omega) (by omega), wrap_u32]; omega
theorem akv {x : Int} (h : 0 <= x /\ x <= 4294967295) : U.right x 7 = U.rot x 7 := by
 have e1 : T.Ah .u64 (IntKind.wrap .u64 (IntKind.wrap .i64 (Int.sub 0 7))) 31 = 25 := by decide +kernel
 have e2 : U.shl .u32 x 25 = 2 ^ 25 * (x % 128) := by
  show IntKind.wrap .u32 (x * 33554432) = _
  rw [wrap_u32]; omega
 have e3 : U.shr .u32 x 7 = x / 128 := by
  show Int.fdiv x 128 = _
  rw [Int.fdiv_eq_ediv_of_nonneg _ (by omega)]
 unfold U.right U.rotl
 simp only [e1]
 show T.orK .u32 (U.shl .u32 x 25) (U.shr .u32 x 7) = IntKind.wrap .u32 (U.shr .u32 x 7 + U.shl .u32 x 25)
 rw [e2, e3, iH 25 (by omega) (by omega) (by omega) (by omega), wrap_u32]; omega
theorem ajK {x : Int} (h : 0 <= x /\ x <= 4294967295) : U.right x 18 = U.rot x 18 := by
 have e1 : T.Ah .u64 (IntKind.wrap .u64 (IntKind.wrap .i64 (Int.sub 0 18))) 31 = 14 := by decide +kernel
 have e2 : U.shl .u32 x 14 = 2 ^ 14 * (x % 262144) := by
  show IntKind.wrap .u32 (x * 16384) = _
  rw [wrap_u32]; omega
 have e3 : U.shr .u32 x 18 = x / 262144 := by
  show Int.fdiv x 262144 = _
  rw [Int.fdiv_eq_ediv_of_nonneg _ (by omega)]
 unfold U.right U.rotl
 simp only [e1]
 show T.orK .u32 (U.shl .u32 x 14) (U.shr .u32 x 18) = IntKind.wrap .u32 (U.shr .u32 x 18 + U.shl .u32 x 14)
 rw [e2, e3, iH 14 (by omega) (by omega) (by omega) (by omega), wrap_u32]; omega
theorem ajL {x : Int} (h : 0 <= x /\ x <= 4294967295) : U.right x 17 = U.rot x 17 := by
 have e1 : T.Ah .u64 (IntKind.wrap .u64 (IntKind.wrap .i64 (Int.sub 0 17))) 31 = 15 := by decide +kernel
 have e2 : U.shl .u32 x 15 = 2 ^ 15 * (x % 131072) := by
  show IntKind.wrap .u32 (x * 32768) = _
  rw [wrap_u32]; omega
 have e3 : U.shr .u32 x 17 = x / 131072 := by
  show Int.fdiv x 131072 = _
  rw [Int.fdiv_eq_ediv_of_nonneg _ (by omega)]
 unfold U.right U.rotl
 simp only [e1]
 show T.orK .u32 (U.shl .u32 x 15) (U.shr .u32 x 17) = IntKind.wrap .u32 (U.shr .u32 x 17 + U.shl .u32 x 15)
 rw [e2, e3, iH 15 (by omega) (by omega) (by omega) (by omega), wrap_u32]; omega
theorem ajM {x : Int} (h : 0 <= x /\ x <= 4294967295) : U.right x 19 = U.rot x 19 := by
 have e1 : T.Ah .u64 (IntKind.wrap .u64 (IntKind.wrap .i64 (Int.sub 0 19))) 31 = 13 := by decide +kernel
 have e2 : U.shl .u32 x 13 = 2 ^ 13 * (x % 524288) := by
  show IntKind.wrap .u32 (x * 8192) = _
  rw [wrap_u32]; omega
 have e3 : U.shr .u32 x 19 = x / 524288 := by
  show Int.fdiv x 524288 = _
  rw [Int.fdiv_eq_ediv_of_nonneg _ (by omega)]
 unfold U.right U.rotl
 simp only [e1]
 show T.orK .u32 (U.shl .u32 x 13) (U.shr .u32 x 19) = IntKind.wrap .u32 (U.shr .u32 x 19 + U.shl .u32 x 13)
 rw [e2, e3, iH 13 (by omega) (by omega) (by omega) (by omega), wrap_u32]; omega
theorem RI (a b : Int) : 0 <= U.add32 a b /\ U.add32 a b <= 4294967295 := by unfold U.add32; rw [wrap_u32, aX]; omega
theorem aif (b : List Int) (n i : Nat) : (b.drop n).getD i 0 = b.getD (n + i) 0 := by
 rw [List.getD_eq_getElem?_getD, List.getD_eq_getElem?_getD, List.getElem?_drop]
theorem afr {b : List Int} (hb : ∀ x ∈ b, Valid (.int .u8) x) (t : Nat) : U.wp b t 4 = U.word (b.drop (4 * t)) /\ 0 <= U.wp b t 4 /\ U.wp b t 4 <= 4294967295 := by
 have h0 := I5 hb (4 * t + 0)
 have h1 := I5 hb (4 * t + 1)
 have h2 := I5 hb (4 * t + 2)
 have h3 := I5 hb (4 * t + 3)
 unfold U.word
 simp only [aif, U.wp, U.add32, wrap_u32, aX, eF]
 generalize b.getD (4 * t + 0) 0 = x0 at *
 generalize b.getD (4 * t + 1) 0 = x1 at *
 generalize b.getD (4 * t + 2) 0 = x2 at *
 generalize b.getD (4 * t + 3) 0 = x3 at *
 omega
def AV (l : List Int) : Prop := ∀ x ∈ l, 0 <= x /\ x <= 4294967295
theorem AV.at {l : List Int} (h : AV l) (i : Nat) : 0 <= l.getD i 0 /\ l.getD i 0 <= 4294967295 := by
 by_cases hi : i < l.length
 ·rw [getD_at hi]; exact h _ (List.getElem_mem hi)
 ·rw [List.getD_eq_getElem?_getD, List.getElem?_eq_none (by omega)]; simp
theorem aiU {l : List Int} (h : AV l) : U.RH l = U.Xd l := by
 unfold U.RH U.Xd U.s0 U.s1
 rw [ajL (h.at _), ajM (h.at _), akv (h.at _), ajK (h.at _)]
 simp only [U.add32, wrap_u32, aX]; omega
theorem adC {b : List Int} (hb : ∀ x ∈ b, Valid (.int .u8) x) : ∀ k, U.jK b k = U.qG b k /\ AV (U.jK b k)
 | 0 => by
   refine ⟨?_, ?_⟩
   ·show U.vG b 16 = U.oK b 16
    unfold U.vG U.oK
    exact List.map_congr_left fun t _ => (afr hb t).1
   ·intro x hx
    obtain ⟨t, _, rfl⟩ := List.mem_map.1 (show x ∈ (List.range 16).map fun t => U.wp b t 4 from hx)
    exact (afr hb t).2
 | k + 1 => by
   obtain ⟨h1, h2⟩ := adC hb k
   refine ⟨by rw [U.jK, U.qG, aiU h2, h1], ?_⟩
   intro x hx
   rw [U.jK, List.mem_append] at hx
   rcases hx with hx | hx
   ·exact h2 x hx
   ·rw [List.mem_singleton] at hx; subst hx; unfold U.RH; exact RI _ _
theorem akw (k w : Int) (s : U.St8) (h : AV (U.ls8 s)) : U.akq k w (U.ls8 s) = U.ls8 (U.rnd k w s) := by
 obtain ⟨a, b, c, d, e, f, g, i⟩ := s
 have ha : 0 <= a /\ a <= 4294967295 := h a (by simp [U.ls8])
 have he : 0 <= e /\ e <= 4294967295 := h e (by simp [U.ls8])
 have h1 : U.rt1 k w [a, b, c, d, e, f, g, i] = U.one k w (a, b, c, d, e, f, g, i) := by
  show U.add32 (U.add32 (U.add32 (U.add32 i (U.dB (U.dB (U.rot e 6) (U.rot e 11)) (U.rot e 25))) (U.dB (U.eY e f) (U.eY (U.agO e) g))) k) w = U.add32 (U.add32 (U.add32 (U.add32 i (U.S1 e)) (U.dB g (U.eY e (U.dB f g)))) k) w
  rw [akL]; unfold U.S1; rw [akt he, ajG he, ajH he]
 have h2 : U.rt2 [a, b, c, d, e, f, g, i] = U.two (a, b, c, d, e, f, g, i) := by
  show U.add32 (U.dB (U.dB (U.rot a 2) (U.rot a 13)) (U.rot a 22)) (U.dB (U.dB (U.eY a b) (U.eY a c)) (U.eY b c)) = U.add32 (U.S0 a) (U.UR (U.eY a b) (U.eY c (U.UR a b)))
  rw [aks]; unfold U.S0; rw [aku ha, ajI ha, ajJ ha]
 show [U.add32 (U.rt1 k w [a, b, c, d, e, f, g, i]) (U.rt2 [a, b, c, d, e, f, g, i]), a, b, c, U.add32 d (U.rt1 k w [a, b, c, d, e, f, g, i]), e, f, g] = [U.add32 (U.one k w (a, b, c, d, e, f, g, i)) (U.two (a, b, c, d, e, f, g, i)), a, b, c, U.add32 d (U.one k w (a, b, c, d, e, f, g, i)), e, f, g]
 rw [h1, h2]
theorem akM (k w : Int) (s : U.St8) (h : AV (U.ls8 s)) : AV (U.ls8 (U.rnd k w s)) := by
 obtain ⟨a, b, c, d, e, f, g, i⟩ := s
 intro x hx
 have hx : x ∈ [U.add32 (U.one k w (a, b, c, d, e, f, g, i)) (U.two (a, b, c, d, e, f, g, i)), a, b, c, U.add32 d (U.one k w (a, b, c, d, e, f, g, i)), e, f, g] := hx
 have hm : ∀ y ∈ [a, b, c, d, e, f, g, i], 0 <= y /\ y <= 4294967295 := h
 simp only [List.mem_cons, List.not_mem_nil, or_false] at hx hm
 rcases hx with rfl | rfl | rfl | rfl | rfl | rfl | rfl | rfl
 ·exact RI _ _
 ·exact hm _ (by simp)
 ·exact hm _ (by simp)
 ·exact hm _ (by simp)
 ·exact RI _ _
 ·exact hm _ (by simp)
 ·exact hm _ (by simp)
 ·exact hm _ (by simp)
theorem afs (w : List Int) (s : U.St8) (h : AV (U.ls8 s)) : ∀ t, U.uX IG w t (U.ls8 s) = U.ls8 (U.DX w t s) /\ AV (U.ls8 (U.DX w t s))
 | 0 => ⟨rfl, h⟩
 | t + 1 => by
   obtain ⟨h1, h2⟩ := afs w s h t
   refine ⟨?_, akM _ _ _ h2⟩
   rw [U.uX, h1]; exact akw _ _ _ h2
theorem aft {h : List Int} (h8 : h.length = 8) : U.ls8 (U.st8 h) = h := by
 match h, h8 with
 | [_, _, _, _, _, _, _, _], _ => rfl
theorem adD (f : Int -> Int -> Int) (hf : ∀ a b, f a b = f b a) : ∀ a b : List Int, List.zipWith f a b = List.zipWith f b a
 | [], [] => rfl
 | [], _ :: _ => rfl
 | _ :: _, [] => rfl
 | x :: a, y :: b => by rw [List.zipWith_cons_cons, List.zipWith_cons_cons, hf, adD f hf a b]
theorem step_eq {h b : List Int} (h8 : h.length = 8) (hv : AV h) (hb : ∀ x ∈ b, Valid (.int .u8) x) : U.Bz h b U.consts = U.step h b /\ (U.step h b).length = 8 /\ AV (U.step h b) := by
 have hs : U.ni b = U.sched b := by unfold U.ni U.sched; exact (adC hb 48).1
 have hr := (afs (U.sched b) (U.st8 h) (by rw [aft h8]; exact hv) 64).1
 rw [aft h8] at hr
 refine ⟨?_, ?_, ?_⟩
 ·unfold U.Bz U.step
  rw [aie, hs, hr]
  exact adD _ (fun a b => by unfold U.add32; rw [aX, aX, Int.add_comm]) _ _
 ·unfold U.step; rw [List.length_zipWith, h8]; rfl
 ·intro x hx
  unfold U.step at hx
  obtain ⟨i, hi, rfl⟩ := List.mem_iff_getElem.1 hx
  rw [List.getElem_zipWith]; exact RI _ _
theorem aiV : ∀ k n, ∀ x ∈ U.be8 k n, 0 <= x /\ x <= 255 := by
 intro k n
 induction k with
 | zero => intro x hx; cases hx
 | succ k ih =>
   intro x hx
   rw [U.be8, List.mem_cons] at hx
   rcases hx with rfl | hx
   ·omega
   ·exact ih x hx
theorem akN {b : List Int} (hb : ∀ x ∈ b, Valid (.int .u8) x) : ∀ x ∈ U.pad b, Valid (.int .u8) x := by
 intro x hx
 unfold U.pad at hx
 rw [List.mem_append, List.mem_cons, List.mem_append] at hx
 have hv : 0 <= x /\ x <= 255 -> Valid (.int .u8) x := fun h => ⟨by show (0 : Int) <= x; omega, by show x <= (255 : Int); omega⟩
 rcases hx with hx | rfl | hx | hx
 ·exact hb x hx
 ·exact hv (by omega)
 ·rw [(List.mem_replicate.1 hx).2]; exact ⟨by show (0 : Int) <= 0; omega, by show (0 : Int) <= (255 : Int); omega⟩
 ·exact hv (aiV _ _ x hx)
theorem fold_eq : ∀ (cs : List (List Int)) (h : List Int), h.length = 8 -> AV h -> (∀ c ∈ cs, ∀ x ∈ c, Valid (.int .u8) x) -> cs.foldl (fun h c => U.Bz h c U.consts) h = cs.foldl U.step h
 | [], _, _, _, _ => rfl
 | c :: r, h, h8, hv, hc => by
   obtain ⟨e1, e2, e3⟩ := step_eq h8 hv (hc c (List.mem_cons_self ..))
   rw [List.foldl_cons, List.foldl_cons, e1]
   exact fold_eq r _ e2 e3 fun d hd => hc d (List.mem_cons_of_mem _ hd)
theorem ajN : AV x9 := by
 have : x9.all (fun x => decide (0 <= x /\ x <= 4294967295)) = true := by decide +kernel
 intro x hx
 have := List.all_eq_true.1 this x hx
 simpa using this
theorem ajO {b : List Int} (hb : ∀ x ∈ b, Valid (.int .u8) x) : U.wQ b = U.sums b := by
 unfold U.wQ U.sums
 rw [aiT]
 refine fold_eq _ _ rfl ajN fun c hc x hx => ?_
 unfold U.chunks at hc
 obtain ⟨k, _, rfl⟩ := List.mem_map.1 hc
 exact akN hb x (List.mem_of_mem_drop (List.mem_of_mem_take hx))
theorem akx {b : List Int} (hb : ∀ x ∈ b, Valid (.int .u8) x) : U.qj (U.wQ b) = U.sum b := by rw [ajO hb]; rfl
theorem aas (b : List Int) (k n : Int) (he : Gi (.obj [.arr 32 false (.int .u8) b, .int .i64 k])) : Ee b k n := by
 have hl : b.length = 32 := (he _ (.head _)).2
 have ht : List.take 32 (List.drop 0 b) = b := Va b (Nat.le_of_eq hl)
 unfold Ee
 rw [ht]
 have h8 : (U.beN 8 (bJ (pz n 0) 4611686018427387904)).length = 8 := iG 8 _
 simp only [dG, fB, h8, hl, maxLen_eq]
 refine ⟨by omega, by omega, ⟨by omega, by omega⟩, (UG n).1, by omega, by omega, ?_⟩
 (repeat' apply And.intro) <;> first | rfl | trivial
theorem adE (c : Chain) (e : Event) (hv : qx [bY, bD] (c, e)) (h1 : (U.cO e).length <= 1000000000000) (h2 : (U.eTo e).length <= 1000000000000) : H9 c e := by
 unfold H9
 have hl : c.1.length = 32 := hv.1.1.2
 refine ⟨h1, h2, ?_⟩
 rw [dN]
 cases hc : U.gJ c with
 | false => rw [BJ (by rw [hc]; simp)]; (repeat' apply And.intro) <;> first | rfl | trivial
 | true =>
   cases hr : U.bg e with
   | false => rw [Xa hr, BJ (by rw [hr]; rfl)]; (repeat' apply And.intro) <;> first | rfl | trivial
   | true =>
     rw [W9 hr]
     obtain ⟨hc0, hc1⟩ := chR hc
     by_cases hm : c.2 = 1099511627776
     ·rw [decide_eq_true hm, QT hr hc hm]; (repeat' apply And.intro) <;> first | rfl | trivial
     ·rw [decide_eq_false hm, Xu hr hc hm]
      have hle := adz hr
      have hB : (c.1.append (U.num1 (IntKind.i64.wrap (c.2.add 1)))).append (U.qc e) = U.AQ c e := by
       unfold U.AQ
       rw [aX, dn (x := c.2 + 1) (by omega) (by omega)]
       simp only [bT, List.append_assoc]
      have hlen := adA (c := c) (e := e) hl
      have hA : (c.1.append (U.num1 (IntKind.i64.wrap (c.2.add 1)))).length = 40 := by rw [bT, List.length_append, hl, dS]
      show (0 : Int) <= 0 /\ _
      rw [hB, hA, akx (akr hv.1 hv.2)]
      refine ⟨by omega, by omega, by omega, ?_, ?_, by omega, rfl, rfl, rfl, rfl, trivial⟩
      ·rw [fB, dG]; show (40 + (U.qc e).length) * 1 <= _; omega
      ·rw [dG, maxLen_eq]; show 40 + (U.qc e).length <= _; omega
end Go.Proofs.YtkhdeldobekciaaGreatDoor
set_option linter.unusedSimpArgs false
set_option maxRecDepth 100000
set_option linter.unusedVariables false
namespace Go.Proofs.YtkhdeldobekciaaGreatDoor
open Go.Vc
theorem aat (x : aG [bY]) : bf Tryz.prog (aK Fv) (NR x) 10 (aY [bY] x) [] (D8 x) = AU x := by kernel_rfl
theorem aau : Pok 10 [bY] (fun x => D8 x) := by
 refine pk (L := fun x => NR x) (l := Fv) Uj (fun _ => rfl) ?_
 intro x hv hp
 rw [aat]
 exact Yu x
theorem aav : aP Tryz.prog gl 10 NQ := aau
theorem KE : aI wV := .cons aav Uj
theorem adF (x : aG [bY]) : bf Tryz.prog (aK wV) (QI x) 11 (aY [bY] x) [] (H6 x) = Ea x := by kernel_rfl
theorem adG : Pok 11 [bY] (fun x => H6 x) := by
 refine pk (L := fun x => QI x) (l := wV) KE (fun _ => rfl) ?_
 intro x hv hp
 rw [adF]
 exact aan x
theorem adH : aP Tryz.prog gl 11 QH := adG
theorem NW : aI zF := .cons adH KE
theorem aaw (x : aG [bY, aF]) : bf Tryz.prog (aK zF) (NT x.1 x.2) 20 (aY [bY, aF] x) [] (wW x.1 x.2) = KC x.1 x.2 := by kernel_rfl
theorem aax : Pok 20 [bY, aF] (fun x => wW x.1 x.2) := by
 refine pk (L := fun x => NT x.1 x.2) (l := zF) NW (fun _ => rfl) ?_
 intro x hv hp
 rw [aaw]
 exact Yv x.1 x.2 (hp (List.length x.2 <= 1000000000000) (by simp [wW]))
theorem aay : aP Tryz.prog gl 20 NS := aax
theorem KF : aI wX := .cons aay NW
theorem adI (x : aG [bY, bD]) : bf Tryz.prog (aK wX) (QK x.1 x.2) 7 (aY [bY, bD] x) [] (uo x.1 x.2) = Eb x.1 x.2 := by kernel_rfl
theorem adJ : Pok 7 [bY, bD] (fun x => uo x.1 x.2) := by
 refine pk (L := fun x => QK x.1 x.2) (l := wX) KF (fun _ => rfl) ?_
 intro x hv hp
 rw [adI]
 exact aap x.1 x.2 hv (hp (List.length (U.cO x.2) <= 1000000000000) (by simp [uo])) (hp (List.length (U.eTo x.2) <= 1000000000000) (by simp [uo]))
theorem adK : aP Tryz.prog gl 7 QJ := adJ
theorem NY : aI zG := .cons adK KF
theorem adL (x : aG [aF]) : bf Tryz.prog (aK zG) (QM x) 12 (aY [aF] x) [] (zH x) = Ec x := by kernel_rfl
theorem adM : Pok 12 [aF] (fun x => zH x) := by
 refine pk (L := fun x => QM x) (l := zG) NY (fun _ => rfl) ?_
 intro x hv hp
 rw [adL]
 exact aaq x hv.1 (hp (List.length x <= 1000000000) (by simp [zH]))
theorem adN : aP Tryz.prog gl 12 QL := adM
theorem NZ : aI zI := .cons adN NY
theorem adO (x : aG [bY, aF]) : bf Tryz.prog (aK zI) (QO x.1 x.2) 14 (aY [bY, aF] x) [] (zJ x.1 x.2) = Ed x.1 x.2 := by kernel_rfl
theorem adP : Pok 14 [bY, aF] (fun x => zJ x.1 x.2) := by
 refine pk (L := fun x => QO x.1 x.2) (l := zI) NZ (fun _ => rfl) ?_
 intro x hv hp
 rw [adO]
 exact aar x.1 x.2 hv (hp (List.length x.2 <= 1000000000) (by simp [zJ]))
theorem adQ : aP Tryz.prog gl 14 QN := adP
theorem N7 : aI zK := .cons adQ NZ
theorem adR (b : List Int) (k : Int) (n : Int) : bf Tryz.prog (aK zK) (QS b k n) 22 (NU b k n) (NV b k n) (H7 b k n) = Ee b k n := by kernel_rfl
theorem ae2 : wB Tryz.prog gl 22 BG := by
 refine pkg (l := zK) N7 (fun args es d h => ?_) (fun args es d h hv he hp => ?_)
 ·unfold BG at h
  rcases fC h with h | h
  ·obtain ⟨b, k, n, rfl, rfl, rfl⟩ := H8 h
   rfl
  cases h
 ·unfold BG at h
  rcases fC h with h | h
  ·obtain ⟨b, k, n, rfl, rfl, rfl⟩ := H8 h
   refine ⟨QS b k n, ?_⟩
   rw [adR]
   exact aas b k n (he _ (.head _))
  cases h
theorem ae3 : aP Tryz.prog gl 22 Uk := ae2
theorem QU : aI BH := .cons ae3 N7
theorem ae4 (x : aG [bY, bD]) : bf Tryz.prog (aK BH) (Um x.1 x.2) 8 (aY [bY, bD] x) [] (vZ x.1 x.2) = H9 x.1 x.2 := by kernel_rfl
theorem ae5 : Pok 8 [bY, bD] (fun x => vZ x.1 x.2) := by
 refine pk (L := fun x => Um x.1 x.2) (l := BH) QU (fun _ => rfl) ?_
 intro x hv hp
 rw [ae4]
 exact adE x.1 x.2 hv (hp (List.length (U.cO x.2) <= 1000000000000) (by simp [vZ])) (hp (List.length (U.eTo x.2) <= 1000000000000) (by simp [vZ]))
theorem ae6 : aP Tryz.prog gl 8 Ul := ae5
theorem QV : aI BI := .cons ae6 QU
end Go.Proofs.YtkhdeldobekciaaGreatDoor
