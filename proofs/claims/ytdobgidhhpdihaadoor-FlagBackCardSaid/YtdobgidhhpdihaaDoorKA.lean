/- What functions of this seat compute, in plain Lean. -/
import Derived.Test.YtdobgidhhpdihaaDoorKZ
import Derived.Test.YtdobgidhhpdihaaDoorKVcG
import Derived.Test.YtdobgidhhpdihaaDoorKS
set_option linter.unusedVariables false
set_option linter.unusedSimpArgs false
set_option maxRecDepth 100000
namespace Go.Proofs.YtdobgidhhpdihaaDoor
open Go.Vc
namespace U
def s0 (l : List Int) : Int := l.getD 0 0
def f8 (l : List Int) : Int := aV.getD (s0 l).toNat 0
def szN (l : List Int) : Int := IntKind.i64.wrap (T.iU .u8 (f8 l) 7)
def acc (l : List Int) : Int × Int := iW.getD ((f8 l).fdiv 16).toNat (0, 0)
def Dc (l : List Int) : Int := cond (decide (s0 l < 128)) (s0 l) 65533
def r2 (l : List Int) : Int := T.orK .i32 (IntKind.i32.wrap (IntKind.i32.wrap (T.iU .u8 (s0 l) 31) * 64)) (IntKind.i32.wrap (T.iU .u8 (l.getD 1 0) 63))
def r3 (l : List Int) : Int := T.orK .i32 (T.orK .i32 (IntKind.i32.wrap (IntKind.i32.wrap (T.iU .u8 (s0 l) 15) * 4096)) (IntKind.i32.wrap (IntKind.i32.wrap (T.iU .u8 (l.getD 1 0) 63) * 64))) (IntKind.i32.wrap (T.iU .u8 (l.getD 2 0) 63))
def r4 (l : List Int) : Int := T.orK .i32 (T.orK .i32 (T.orK .i32 (IntKind.i32.wrap (IntKind.i32.wrap (T.iU .u8 (s0 l) 7) * 262144)) (IntKind.i32.wrap (IntKind.i32.wrap (T.iU .u8 (l.getD 1 0) 63) * 4096))) (IntKind.i32.wrap (IntKind.i32.wrap (T.iU .u8 (l.getD 2 0) 63) * 64))) (IntKind.i32.wrap (T.iU .u8 (l.getD 3 0) 63))
def bf (l : List Int) : Int × Int := cond (decide (l = [])) (65533, 0) (cond (decide (f8 l >= 240)) (Dc l, 1) (cond (decide ((l.length : Int) < szN l)) (65533, 1)
 (cond (decide (l.getD 1 0 < (acc l).1) || decide ((acc l).2 < l.getD 1 0)) (65533, 1) (cond (decide (szN l <= 2)) (r2 l, 2)
 (cond (decide (l.getD 2 0 < 128) || decide (191 < l.getD 2 0)) (65533, 1) (cond (decide (szN l <= 3)) (r3 l, 3)
 (cond (decide (l.getD 3 0 < 128) || decide (191 < l.getD 3 0)) (65533, 1) (r4 l, 4))))))))
def bW (l : List Int) : Int × Int := cond (!(decide (l = [])) && decide (s0 l < 128)) (s0 l, 1) (bf l)
def bI (r : Int) : Int := cond (decide (r < 128)) (bT.getD r.toNat 0) (cond (decide (r = 383)) 83 75)
def D5 (r : Int) : Int := cond (decide (r = 383)) 10 88
def bad (n : Nat) (t : List Int) : Prop := t.length < n ∨ (t.length = n /\ t ≠ [] /\ 128 <= s0 t)
def jw (r : Int) : Prop := (0 <= r /\ r < 128) ∨ r = 383 ∨ r = 8490
end U
namespace U
def bQ (r : Int) (lo : Int) (hi : Int) : St2 := ⟨⟨[sK .i32 r] ++ U.n 2 ++ [sI lo] ++ [sI hi] ++ U.n 75, [], []⟩, 0, []⟩
def dB (r : Int)  (lo : Int) (hi : Int) : Prop := 0 <= lo /\ lo <= hi /\ hi <= aB.length /\ lo <= D5 r /\ D5 r <= hi
def aU (s t : List Int) (i : Int) : St2 := ⟨⟨[sS s] ++ [sS t] ++ U.n 3 ++ [sI i] ++ [sI s.length] ++ U.n 116, [], []⟩, 0, []⟩
def cu (s t : List Int)  (i : Int) : Prop := at_ s i /\ s.length = t.length /\ (s.take i.toNat).map aP = (t.take i.toNat).map aP
def aI  (S : List Int) (p : Nat) (T : List Int) : St2 := ⟨⟨U.n 1 ++ [sS T] ++ U.n 65 ++ [some (.one (.hid 0))] ++ U.n 55, [], [(0, .hid (.iter S p))]⟩, 1, []⟩
def bn  (S' : List Int) (p' : Nat) (T' : List Int) (S : List Int) (p : Nat) (T : List Int) : Prop :=  S = S' /\ yH S /\ (∀ x ∈ S, Byte x) /\ (∀ x ∈ T, Byte x) /\ p <= S.length /\ bad (S.length - p) T
def aZ  (S : List Int) (p : Nat) (T : List Int) (c : Int) (tr : Int) (r : Int) : St2 := ⟨⟨U.n 1 ++ [sS T] ++ U.n 8 ++ [sK .i32 c] ++ [sK .i32 tr] ++ U.n 1 ++ [sK .i32 r] ++ U.n 53 ++ [some (.one (.hid 0))] ++ U.n 55, [], [(0, .hid (.iter S p))]⟩, 1, []⟩
def bU  (S' : List Int) (p' : Nat) (T' : List Int) (c' : Int) (tr' : Int) (r' : Int) (S : List Int) (p : Nat) (T : List Int) (c : Int) (tr : Int) (r : Int) : Prop :=  S = S' /\ p = p' /\ T = T' /\ c = c' /\ tr = tr' /\ jw r /\ (r = c ∨ bI r = c ∨ bI (bI r) = c)
end U
def tu (r : Int) : Vc.Loop := ⟨{ keep := [0, 3, 4] }, Int × Int, fun x => U.bQ r x.1 x.2, fun x0 x => U.dB r  x.1 x.2, fun x => (x.2 - x.1).toNat, fun p => ∀ x, p x, fun _ h => h⟩
def uM (s t : List Int) : Vc.Loop := ⟨{ keep := [0, 1, 5, 6] }, Int, fun x => U.aU s t x, fun x0 x => U.cu s t  x, fun x => s.length - x.toNat, fun p => ∀ x, p x, fun _ h => h⟩
def tC  : Vc.Loop := ⟨{ keep := [1, 67] }, List Int × Nat × List Int, fun x => U.aI  x.1 x.2.1 x.2.2, fun x0 x => U.bn  x0.1 x0.2.1 x0.2.2 x.1 x.2.1 x.2.2, fun x => x.1.length - x.2.1, fun p => ∀ x, p x, fun _ h => h⟩
def tH  : Vc.Loop := ⟨{ keep := [1, 10, 11, 13, 67] }, List Int × Nat × List Int × Int × Int × Int, fun x => U.aZ  x.1 x.2.1 x.2.2.1 x.2.2.2.1 x.2.2.2.2.1 x.2.2.2.2.2, fun x0 x => U.bU  x0.1 x0.2.1 x0.2.2.1 x0.2.2.2.1 x0.2.2.2.2.1 x0.2.2.2.2.2 x.1 x.2.1 x.2.2.1 x.2.2.2.1 x.2.2.2.2.1 x.2.2.2.2.2, fun x => cond (decide (x.2.2.2.2.2 = x.2.2.2.1)) 0 (cond (decide (U.bI x.2.2.2.2.2 = x.2.2.2.1)) 1 2), fun p => ∀ x, p x, fun _ h => h⟩
def dG (l : List Int) : Done := ⟨[], .tup [one (.int .i32 (U.bf l).1), one (.int .i64 (U.bf l).2)], [], []⟩
def fJ : Vc.Sum := .pure [.str] false fun x => dG x
def fK (l : List Int) : Nat -> List V -> Nat -> Option Vc.Loop := xu
def bM : List (Nat × Ent) := (26, .sum fJ) :: []
def dU (l : List Int) : Done := ⟨[], .tup [one (.int .i32 (U.bW l).1), one (.int .i64 (U.bW l).2)], [], []⟩
def gX : Vc.Sum := .pure [.str] false fun x => dU x
def gY (l : List Int) : Nat -> List V -> Nat -> Option Vc.Loop := xu
def cO : List (Nat × Ent) := (21, .sum gX) :: bM
def ig (r : Int) : Done := ⟨[U.jw r], .one (.int .i32 (U.bI r)), [], []⟩
def nC : Vc.Sum := .pure [.int .i32] false fun x => ig x
def nD (r : Int) : Nat -> List V -> Nat -> Option Vc.Loop := fun f v k => cond (Nat.beq f 22 && Nat.beq k 7) (some (tu r)) <| none
def iq : List (Nat × Ent) := (22, .sum nC) :: cO
def iO (s : List Int) (t : List Int) : Done := ⟨[yH s /\ s.length = t.length /\ s.length <= 1000], .one (.bool (decide (s.map aP = t.map aP))), [], []⟩
def oV : Vc.Sum := .pure [.str, .str] false fun x => iO x.1 x.2
def oW (s : List Int) (t : List Int) : Nat -> List V -> Nat -> Option Vc.Loop := fun f v k => cond (Nat.beq f 17 && Nat.beq k 3) (some (uM s t)) <| cond (Nat.beq f 17 && Nat.beq k 17) (some (tC)) <| cond (Nat.beq f 17 && Nat.beq k 30) (some (tH)) <| none
def oZ : List (Nat × Ent) := (17, .sum oV) :: iq
def wL : Vc.Sum := .gen KX
def lu : List (Nat × Ent) := (20, .sum wL) :: oZ
end Go.Proofs.YtdobgidhhpdihaaDoor
set_option maxRecDepth 100000
set_option linter.unusedVariables false
namespace Go.Proofs.YtdobgidhhpdihaaDoor
open Go.Vc
def dA (l : List Int) : Prop := bif decide ((↑l.length : Int) < (1 : Int)) then (65533 : Int) = (U.bf l).1 /\ (0 : Int) = (U.bf l).2 /\ True else (0 : Int) <= (0 : Int) /\ (0 : Int) < (↑l.length : Int) /\ (0 : Int) <= l.getD (0 : Nat) (0 : Int) /\ l.getD (0 : Nat) (0 : Int) < (↑(256 : Nat) : Int) /\ bif decide (aV.getD (l.getD (0 : Nat) (0 : Int)).toNat
 (0 : Int) >= (240 : Int)) then (0 : Int) <= (31 : Int) /\ (0 : Int) <= (31 : Int) /\ (0 : Int) <= (0 : Int) /\ (0 : Int) < (↑l.length : Int) /\ IntKind.i32.wrap (↑((BitVec.ofInt IntKind.i32.bits (IntKind.i32.wrap (↑((BitVec.ofInt IntKind.i32.bits (IntKind.i32.wrap (l.getD (0 : Nat) (0 : Int)))).and (BitVec.ofInt IntKind.i32.bits ((IntKind.i32.wrap ((IntKind.i32.wrap (aV.getD (l.getD (0 : Nat) (0 :
 Int)).toNat (0 : Int))).mul (Int.pow (2 : Int) (if (31 : Nat) <= IntKind.i32.bits then (31 : Nat) else IntKind.i32.bits)))).fdiv (Int.pow (2 : Int) (if (31 : Nat) <= IntKind.i32.bits then (31 : Nat) else IntKind.i32.bits)))).not).toNat : Int))).or (BitVec.ofInt IntKind.i32.bits (IntKind.i32.wrap (↑((BitVec.ofInt IntKind.i32.bits (65533 : Int)).and (BitVec.ofInt IntKind.i32.bits ((IntKind.i32.wrap
 ((IntKind.i32.wrap (aV.getD (l.getD (0 : Nat) (0 : Int)).toNat (0 : Int))).mul (Int.pow (2 : Int) (if (31 : Nat) <= IntKind.i32.bits then (31 : Nat) else IntKind.i32.bits)))).fdiv (Int.pow (2 : Int) (if (31 : Nat) <= IntKind.i32.bits then (31 : Nat) else IntKind.i32.bits))))).toNat : Int)))).toNat : Int) = (U.bf l).1 /\ (1 : Int) = (U.bf l).2 /\ True else (0 : Int) <= (4 : Int) /\ (0 :
 Int) <= (aV.getD (l.getD (0 : Nat) (0 : Int)).toNat (0 : Int)).fdiv (Int.pow (2 : Int) (if (4 : Nat) <= IntKind.u8.bits then (4 : Nat) else IntKind.u8.bits)) /\ (aV.getD (l.getD (0 : Nat) (0 : Int)).toNat (0 : Int)).fdiv (Int.pow (2 : Int) (if (4 : Nat) <= IntKind.u8.bits then (4 : Nat) else IntKind.u8.bits)) < (↑(16 : Nat) : Int) /\ bif decide ((↑l.length : Int) < IntKind.i64.wrap
 (IntKind.u8.wrap (↑((BitVec.ofInt IntKind.u8.bits (aV.getD (l.getD (0 : Nat) (0 : Int)).toNat (0 : Int))).and (BitVec.ofInt IntKind.u8.bits (7 : Int))).toNat : Int))) then (65533 : Int) = (U.bf l).1 /\ (1 : Int) = (U.bf l).2 /\ True else (0 : Int) <= (1 : Int) /\ (1 : Int) < (↑l.length : Int) /\ bif bif decide (l.getD (1 : Nat) (0 : Int) < (iW.getD ((aV.getD
 (l.getD (0 : Nat) (0 : Int)).toNat (0 : Int)).fdiv (Int.pow (2 : Int) (if (4 : Nat) <= IntKind.u8.bits then (4 : Nat) else IntKind.u8.bits))).toNat ((0 : Int), (0 : Int))).1) then true else decide ((iW.getD ((aV.getD (l.getD (0 : Nat) (0 : Int)).toNat (0 : Int)).fdiv (Int.pow (2 : Int) (if (4 : Nat) <= IntKind.u8.bits then (4 : Nat) else IntKind.u8.bits))).toNat ((0 : Int), (0
 : Int))).2 < l.getD (1 : Nat) (0 : Int)) then (65533 : Int) = (U.bf l).1 /\ (1 : Int) = (U.bf l).2 /\ True else bif decide (IntKind.i64.wrap (IntKind.u8.wrap (↑((BitVec.ofInt IntKind.u8.bits (aV.getD (l.getD (0 : Nat) (0 : Int)).toNat (0 : Int))).and (BitVec.ofInt IntKind.u8.bits (7 : Int))).toNat : Int)) <= (2 : Int)) then (0 : Int) <= (6 : Int) /\ IntKind.i32.wrap (↑((BitVec.ofInt
 IntKind.i32.bits (IntKind.i32.wrap ((IntKind.i32.wrap (IntKind.u8.wrap (↑((BitVec.ofInt IntKind.u8.bits (l.getD (0 : Nat) (0 : Int))).and (BitVec.ofInt IntKind.u8.bits (31 : Int))).toNat : Int))).mul (Int.pow (2 : Int) (if (6 : Nat) <= IntKind.i32.bits then (6 : Nat) else IntKind.i32.bits))))).or (BitVec.ofInt IntKind.i32.bits (IntKind.i32.wrap (IntKind.u8.wrap (↑((BitVec.ofInt IntKind.u8.bits
 (l.getD (1 : Nat) (0 : Int))).and (BitVec.ofInt IntKind.u8.bits (63 : Int))).toNat : Int))))).toNat : Int) = (U.bf l).1 /\ (2 : Int) = (U.bf l).2 /\ True else (0 : Int) <= (2 : Int) /\ (2 : Int) < (↑l.length : Int) /\ bif bif decide (l.getD (2 : Nat) (0 : Int) < (128 : Int)) then true else decide ((191 : Int) < l.getD (2 : Nat) (0 : Int)) then (65533 : Int) = (U.bf l).1 /\ (1 : Int) =
 (U.bf l).2 /\ True else bif decide (IntKind.i64.wrap (IntKind.u8.wrap (↑((BitVec.ofInt IntKind.u8.bits (aV.getD (l.getD (0 : Nat) (0 : Int)).toNat (0 : Int))).and (BitVec.ofInt IntKind.u8.bits (7 : Int))).toNat : Int)) <= (3 : Int)) then (0 : Int) <= (12 : Int) /\ (0 : Int) <= (6 : Int) /\ IntKind.i32.wrap (↑((BitVec.ofInt IntKind.i32.bits (IntKind.i32.wrap (↑((BitVec.ofInt IntKind.i32.bits
 (IntKind.i32.wrap ((IntKind.i32.wrap (IntKind.u8.wrap (↑((BitVec.ofInt IntKind.u8.bits (l.getD (0 : Nat) (0 : Int))).and (BitVec.ofInt IntKind.u8.bits (15 : Int))).toNat : Int))).mul (Int.pow (2 : Int) (if (12 : Nat) <= IntKind.i32.bits then (12 : Nat) else IntKind.i32.bits))))).or (BitVec.ofInt IntKind.i32.bits (IntKind.i32.wrap ((IntKind.i32.wrap (IntKind.u8.wrap (↑((BitVec.ofInt IntKind.u8.bits
 (l.getD (1 : Nat) (0 : Int))).and (BitVec.ofInt IntKind.u8.bits (63 : Int))).toNat : Int))).mul (Int.pow (2 : Int) (if (6 : Nat) <= IntKind.i32.bits then (6 : Nat) else IntKind.i32.bits)))))).toNat : Int))).or (BitVec.ofInt IntKind.i32.bits (IntKind.i32.wrap (IntKind.u8.wrap (↑((BitVec.ofInt IntKind.u8.bits (l.getD (2 : Nat) (0 : Int))).and (BitVec.ofInt IntKind.u8.bits (63 : Int))).toNat :
 Int))))).toNat : Int) = (U.bf l).1 /\ (3 : Int) = (U.bf l).2 /\ True else (0 : Int) <= (3 : Int) /\ (3 : Int) < (↑l.length : Int) /\ bif bif decide (l.getD (3 : Nat) (0 : Int) < (128 : Int)) then true else decide ((191 : Int) < l.getD (3 : Nat) (0 : Int)) then (65533 : Int) = (U.bf l).1 /\ (1 : Int) = (U.bf l).2 /\ True else (0 : Int) <= (18 : Int) /\ (0 : Int) <= (12 : Int) /\ (0 : Int) <=
 (6 : Int) /\ IntKind.i32.wrap (↑((BitVec.ofInt IntKind.i32.bits (IntKind.i32.wrap (↑((BitVec.ofInt IntKind.i32.bits (IntKind.i32.wrap (↑((BitVec.ofInt IntKind.i32.bits (IntKind.i32.wrap ((IntKind.i32.wrap (IntKind.u8.wrap (↑((BitVec.ofInt IntKind.u8.bits (l.getD (0 : Nat) (0 : Int))).and (BitVec.ofInt IntKind.u8.bits (7 : Int))).toNat : Int))).mul (Int.pow (2 : Int) (if (18 : Nat) <= IntKind.i32.bits
 then (18 : Nat) else IntKind.i32.bits))))).or (BitVec.ofInt IntKind.i32.bits (IntKind.i32.wrap ((IntKind.i32.wrap (IntKind.u8.wrap (↑((BitVec.ofInt IntKind.u8.bits (l.getD (1 : Nat) (0 : Int))).and (BitVec.ofInt IntKind.u8.bits (63 : Int))).toNat : Int))).mul (Int.pow (2 : Int) (if (12 : Nat) <= IntKind.i32.bits then (12 : Nat) else IntKind.i32.bits)))))).toNat : Int))).or (BitVec.ofInt
 IntKind.i32.bits (IntKind.i32.wrap ((IntKind.i32.wrap (IntKind.u8.wrap (↑((BitVec.ofInt IntKind.u8.bits (l.getD (2 : Nat) (0 : Int))).and (BitVec.ofInt IntKind.u8.bits (63 : Int))).toNat : Int))).mul (Int.pow (2 : Int) (if (6 : Nat) <= IntKind.i32.bits then (6 : Nat) else IntKind.i32.bits)))))).toNat : Int))).or (BitVec.ofInt IntKind.i32.bits (IntKind.i32.wrap (IntKind.u8.wrap (↑((BitVec.ofInt
 IntKind.u8.bits (l.getD (3 : Nat) (0 : Int))).and (BitVec.ofInt IntKind.u8.bits (63 : Int))).toNat : Int))))).toNat : Int) = (U.bf l).1 /\ (4 : Int) = (U.bf l).2 /\ True
def dP (l : List Int) : Prop := ((!l.beq []) = true -> (0 : Int) <= (0 : Int)) /\ ((!l.beq []) = true -> (0 : Int) < (↑l.length : Int)) /\ bif bif !l.beq [] then decide (l.getD (0 : Nat) (0 : Int) < (128 : Int)) else false then (0 : Int) <= (0 : Int) /\ (0 : Int) < (↑l.length : Int) /\ IntKind.i32.wrap (l.getD (0 : Nat) (0 : Int)) = (U.bW l).1 /\ (1 : Int) = (U.bW l).2 /\
 True else (U.bf l).1 = (U.bW l).1 /\ (U.bf l).2 = (U.bW l).2 /\ True
def jy (r : Int) : Prop := bif bif decide (r < (0 : Int)) then true else decide (r > (1114111 : Int)) then r = U.bI r /\ True else bif decide (IntKind.i64.wrap r < (128 : Int)) then (0 : Int) <= r /\ r < (↑(128 : Nat) : Int) /\ IntKind.i32.wrap (bT.getD r.toNat (0 : Int)) = U.bI r /\ True else ∃ (x0 : Int × Int), (U.bQ r (0 : Int)
 (↑aB.length : Int) = U.bQ r x0.1 x0.2 /\ U.dB r x0.1 x0.2) /\ ∀ (x : Int × Int), U.dB r x.1 x.2 -> bif decide (x.1 < x.2) then (0 : Int) <= (1 : Int) /\ (0 : Int) <= IntKind.i64.wrap ((IntKind.u64.wrap (IntKind.i64.wrap (x.1.add x.2))).fdiv (Int.pow (2 : Int) (if (1 : Nat) <= IntKind.u64.bits then (1 : Nat) else IntKind.u64.bits))) /\
 IntKind.i64.wrap ((IntKind.u64.wrap (IntKind.i64.wrap (x.1.add x.2))).fdiv (Int.pow (2 : Int) (if (1 : Nat) <= IntKind.u64.bits then (1 : Nat) else IntKind.u64.bits))) < (↑aB.length : Int) /\ bif decide (IntKind.i32.wrap (aB.getD (IntKind.i64.wrap ((IntKind.u64.wrap (IntKind.i64.wrap (x.1.add x.2))).fdiv (Int.pow (2 : Int) (if (1 : Nat) <= IntKind.u64.bits then (1 : Nat)
 else IntKind.u64.bits)))).toNat ((0 : Int), (0 : Int))).1 < r) then ∃ (y : Int × Int), U.bQ r (IntKind.i64.wrap ((IntKind.i64.wrap ((IntKind.u64.wrap (IntKind.i64.wrap (x.1.add x.2))).fdiv (Int.pow (2 : Int) (if (1 : Nat) <= IntKind.u64.bits then (1 : Nat) else IntKind.u64.bits)))).add (1 : Int))) x.2 = U.bQ r y.1 y.2 /\ U.dB r y.1 y.2 /\
 (y.2.sub y.1).toNat < (x.2.sub x.1).toNat else ∃ (y : Int × Int), U.bQ r x.1 (IntKind.i64.wrap ((IntKind.u64.wrap (IntKind.i64.wrap (x.1.add x.2))).fdiv (Int.pow (2 : Int) (if (1 : Nat) <= IntKind.u64.bits then (1 : Nat) else IntKind.u64.bits)))) = U.bQ r y.1 y.2 /\ U.dB r y.1 y.2 /\ (y.2.sub y.1).toNat < (x.2.sub x.1).toNat else (decide (x.1
 < (↑aB.length : Int)) = true -> (0 : Int) <= x.1) /\ (decide (x.1 < (↑aB.length : Int)) = true -> x.1 < (↑aB.length : Int)) /\ bif bif decide (x.1 < (↑aB.length : Int)) then decide (IntKind.i32.wrap (aB.getD x.1.toNat ((0 : Int), (0 : Int))).1 = r) else false then (0 : Int) <= x.1 /\ x.1 < (↑aB.length : Int) /\
 IntKind.i32.wrap (aB.getD x.1.toNat ((0 : Int), (0 : Int))).2 = U.bI r /\ True else False
def jH (s : List Int) (t : List Int) : Prop := ∃ (x0 : Int), ((⟨⟨[U.sS s] ++ [U.sS t] ++ U.n 3 ++ [U.sI (0 : Int)] ++ [U.sI (FN (↑s.length : Int) (↑t.length : Int))] ++ U.n 116, [], []⟩, (0 : Nat), []⟩ : St2) = U.aU s t x0 /\ U.cu s t x0) /\ ∀ (x : Int), U.cu s t x -> bif decide (x < (↑s.length : Int)) then (0 : Int) <= x /\ x <
 (↑s.length : Int) /\ (0 : Int) <= x /\ x < (↑t.length : Int) /\ bif decide (IntKind.u8.wrap (↑((BitVec.ofInt IntKind.u8.bits (s.getD x.toNat (0 : Int))).or (BitVec.ofInt IntKind.u8.bits (t.getD x.toNat (0 : Int)))).toNat : Int) >= (128 : Int)) then (0 : Int) <= x /\ x <= (↑s.length : Int) /\ (↑s.length : Int) <= (↑s.length : Int) /\ (0 : Int) <= x /\ x <= (↑t.length : Int) /\ (↑t.length : Int) <= (↑t.length : Int)
 /\ ∃ (x0 : List Int × Nat × List Int), (U.aI (List.take ((↑s.length : Int).toNat.sub x.toNat) (List.drop x.toNat s)) (0 : Nat) (List.take ((↑t.length : Int).toNat.sub x.toNat) (List.drop x.toNat t)) = U.aI x0.1 x0.2.1 x0.2.2 /\ U.bn x0.1 x0.2.1 x0.2.2 x0.1 x0.2.1 x0.2.2) /\ ∀ (x : List Int × Nat × List Int), U.bn x0.1 x0.2.1
 x0.2.2 x.1 x.2.1 x.2.2 -> (x.2.1 < x.1.length -> bif decide ((↑x.2.2.length : Int) = (0 : Int)) then false = decide (List.map aP s = List.map aP t) /\ True else (0 : Int) <= (U.bW x.2.2).2 /\ (U.bW x.2.2).2 <= (↑x.2.2.length : Int) /\ (↑x.2.2.length : Int) <= (↑x.2.2.length : Int) /\ bif decide ((U.bW x.2.2).1 = (bJ x.1 x.2.1).1) then ∃ (y : List Int × Nat × List Int), U.aI
 x.1 (x.2.1.add (bJ x.1 x.2.1).2) (List.take ((↑x.2.2.length : Int).toNat.sub (U.bW x.2.2).2.toNat) (List.drop (U.bW x.2.2).2.toNat x.2.2)) = U.aI y.1 y.2.1 y.2.2 /\ U.bn x0.1 x0.2.1 x0.2.2 y.1 y.2.1 y.2.2 /\ y.1.length.sub y.2.1 < x.1.length.sub x.2.1 else bif decide ((U.bW x.2.2).1 < (bJ x.1 x.2.1).1) then bif decide ((bJ x.1 x.2.1).1 < (128 :
 Int)) then bif bif bif decide ((65 : Int) <= (U.bW x.2.2).1) then decide ((U.bW x.2.2).1 <= (90 : Int)) else false then decide ((bJ x.1 x.2.1).1 = IntKind.i32.wrap ((IntKind.i32.wrap ((U.bW x.2.2).1.add (97 : Int))).sub (65 : Int))) else false then ∃ (y : List Int × Nat × List Int), U.aI x.1 (x.2.1.add (bJ x.1 x.2.1).2) (List.take ((↑x.2.2.length : Int).toNat.sub
 (U.bW x.2.2).2.toNat) (List.drop (U.bW x.2.2).2.toNat x.2.2)) = U.aI y.1 y.2.1 y.2.2 /\ U.bn x0.1 x0.2.1 x0.2.2 y.1 y.2.1 y.2.2 /\ y.1.length.sub y.2.1 < x.1.length.sub x.2.1 else false = decide (List.map aP s = List.map aP t) /\ True else U.jw (U.bW x.2.2).1 /\ ∃ (aT : List Int × Nat × List Int × Int × Int × Int), (U.aZ x.1
 (x.2.1.add (bJ x.1 x.2.1).2) (List.take ((↑x.2.2.length : Int).toNat.sub (U.bW x.2.2).2.toNat) (List.drop (U.bW x.2.2).2.toNat x.2.2)) (U.bW x.2.2).1 (bJ x.1 x.2.1).1 (U.bI (U.bW x.2.2).1) = U.aZ aT.1 aT.2.1 aT.2.2.1 aT.2.2.2.1 aT.2.2.2.2.1 aT.2.2.2.2.2 /\ U.bU aT.1 aT.2.1 aT.2.2.1 aT.2.2.2.1 aT.2.2.2.2.1 aT.2.2.2.2.2
 aT.1 aT.2.1 aT.2.2.1 aT.2.2.2.1 aT.2.2.2.2.1 aT.2.2.2.2.2) /\ ∀ (x_1 : List Int × Nat × List Int × Int × Int × Int), U.bU aT.1 aT.2.1 aT.2.2.1 aT.2.2.2.1 aT.2.2.2.2.1 aT.2.2.2.2.2 x_1.1 x_1.2.1 x_1.2.2.1 x_1.2.2.2.1 x_1.2.2.2.2.1 x_1.2.2.2.2.2 -> bif bif x_1.2.2.2.2.2 != x_1.2.2.2.1 then decide (x_1.2.2.2.2.2 < x_1.2.2.2.2.1) else false then U.jw
 x_1.2.2.2.2.2 /\ ∃ (y : List Int × Nat × List Int × Int × Int × Int), U.aZ x_1.1 x_1.2.1 x_1.2.2.1 x_1.2.2.2.1 x_1.2.2.2.2.1 (U.bI x_1.2.2.2.2.2) = U.aZ y.1 y.2.1 y.2.2.1 y.2.2.2.1 y.2.2.2.2.1 y.2.2.2.2.2 /\ U.bU aT.1 aT.2.1 aT.2.2.1 aT.2.2.2.1 aT.2.2.2.2.1 aT.2.2.2.2.2 y.1 y.2.1 y.2.2.1 y.2.2.2.1 y.2.2.2.2.1 y.2.2.2.2.2 /\ (bif
 decide (y.2.2.2.2.2 = y.2.2.2.1) then (0 : Nat) else bif decide (U.bI y.2.2.2.2.2 = y.2.2.2.1) then (1 : Nat) else (2 : Nat)) < bif decide (x_1.2.2.2.2.2 = x_1.2.2.2.1) then (0 : Nat) else bif decide (U.bI x_1.2.2.2.2.2 = x_1.2.2.2.1) then (1 : Nat) else (2 : Nat) else bif decide (x_1.2.2.2.2.2 = x_1.2.2.2.2.1) then ∃ (y : List Int × Nat × List Int), U.aI x_1.1 x_1.2.1
 x_1.2.2.1 = U.aI y.1 y.2.1 y.2.2 /\ U.bn x0.1 x0.2.1 x0.2.2 y.1 y.2.1 y.2.2 /\ y.1.length.sub y.2.1 < x.1.length.sub x.2.1 else false = decide (List.map aP s = List.map aP t) /\ True else bif decide ((U.bW x.2.2).1 < (128 : Int)) then bif bif bif decide ((65 : Int) <= (bJ x.1 x.2.1).1) then decide ((bJ x.1 x.2.1).1 <= (90 : Int)) else false then
 decide ((U.bW x.2.2).1 = IntKind.i32.wrap ((IntKind.i32.wrap ((bJ x.1 x.2.1).1.add (97 : Int))).sub (65 : Int))) else false then ∃ (y : List Int × Nat × List Int), U.aI x.1 (x.2.1.add (bJ x.1 x.2.1).2) (List.take ((↑x.2.2.length : Int).toNat.sub (U.bW x.2.2).2.toNat) (List.drop (U.bW x.2.2).2.toNat x.2.2)) = U.aI y.1 y.2.1 y.2.2 /\
 U.bn x0.1 x0.2.1 x0.2.2 y.1 y.2.1 y.2.2 /\ y.1.length.sub y.2.1 < x.1.length.sub x.2.1 else false = decide (List.map aP s = List.map aP t) /\ True else U.jw (bJ x.1 x.2.1).1 /\ ∃ (aT : List Int × Nat × List Int × Int × Int × Int), (U.aZ x.1 (x.2.1.add (bJ x.1 x.2.1).2) (List.take ((↑x.2.2.length : Int).toNat.sub (U.bW x.2.2).2.toNat) (List.drop
 (U.bW x.2.2).2.toNat x.2.2)) (bJ x.1 x.2.1).1 (U.bW x.2.2).1 (U.bI (bJ x.1 x.2.1).1) = U.aZ aT.1 aT.2.1 aT.2.2.1 aT.2.2.2.1 aT.2.2.2.2.1 aT.2.2.2.2.2 /\ U.bU aT.1 aT.2.1 aT.2.2.1 aT.2.2.2.1 aT.2.2.2.2.1 aT.2.2.2.2.2 aT.1 aT.2.1 aT.2.2.1 aT.2.2.2.1 aT.2.2.2.2.1 aT.2.2.2.2.2) /\ ∀ (x_1 : List Int × Nat × List Int
 × Int × Int × Int), U.bU aT.1 aT.2.1 aT.2.2.1 aT.2.2.2.1 aT.2.2.2.2.1 aT.2.2.2.2.2 x_1.1 x_1.2.1 x_1.2.2.1 x_1.2.2.2.1 x_1.2.2.2.2.1 x_1.2.2.2.2.2 -> bif bif x_1.2.2.2.2.2 != x_1.2.2.2.1 then decide (x_1.2.2.2.2.2 < x_1.2.2.2.2.1) else false then U.jw x_1.2.2.2.2.2 /\ ∃ (y : List Int × Nat × List Int × Int × Int × Int), U.aZ x_1.1 x_1.2.1
 x_1.2.2.1 x_1.2.2.2.1 x_1.2.2.2.2.1 (U.bI x_1.2.2.2.2.2) = U.aZ y.1 y.2.1 y.2.2.1 y.2.2.2.1 y.2.2.2.2.1 y.2.2.2.2.2 /\ U.bU aT.1 aT.2.1 aT.2.2.1 aT.2.2.2.1 aT.2.2.2.2.1 aT.2.2.2.2.2 y.1 y.2.1 y.2.2.1 y.2.2.2.1 y.2.2.2.2.1 y.2.2.2.2.2 /\ (bif decide (y.2.2.2.2.2 = y.2.2.2.1) then (0 : Nat) else bif decide (U.bI y.2.2.2.2.2 = y.2.2.2.1) then (1 :
 Nat) else (2 : Nat)) < bif decide (x_1.2.2.2.2.2 = x_1.2.2.2.1) then (0 : Nat) else bif decide (U.bI x_1.2.2.2.2.2 = x_1.2.2.2.1) then (1 : Nat) else (2 : Nat) else bif decide (x_1.2.2.2.2.2 = x_1.2.2.2.2.1) then ∃ (y : List Int × Nat × List Int), U.aI x_1.1 x_1.2.1 x_1.2.2.1 = U.aI y.1 y.2.1 y.2.2 /\ U.bn x0.1 x0.2.1 x0.2.2 y.1 y.2.1
 y.2.2 /\ y.1.length.sub y.2.1 < x.1.length.sub x.2.1 else false = decide (List.map aP s = List.map aP t) /\ True) /\ (x.1.length <= x.2.1 -> decide ((↑x.2.2.length : Int) = (0 : Int)) = decide (List.map aP s = List.map aP t) /\ True) else bif decide (t.getD x.toNat (0 : Int) = s.getD x.toNat (0 : Int)) then ∃ (y : Int), U.aU s t (IntKind.i64.wrap (x.add (1 : Int))) =
 U.aU s t y /\ U.cu s t y /\ s.length.sub y.toNat < s.length.sub x.toNat else bif decide (t.getD x.toNat (0 : Int) < s.getD x.toNat (0 : Int)) then bif bif bif decide ((65 : Int) <= t.getD x.toNat (0 : Int)) then decide (t.getD x.toNat (0 : Int) <= (90 : Int)) else false then decide (s.getD x.toNat (0 : Int) = IntKind.u8.wrap ((IntKind.u8.wrap ((t.getD x.toNat (0 :
 Int)).add (97 : Int))).sub (65 : Int))) else false then ∃ (y : Int), U.aU s t (IntKind.i64.wrap (x.add (1 : Int))) = U.aU s t y /\ U.cu s t y /\ s.length.sub y.toNat < s.length.sub x.toNat else false = decide (List.map aP s = List.map aP t) /\ True else bif bif bif decide ((65 : Int) <= s.getD x.toNat (0 : Int)) then decide (s.getD x.toNat (0
 : Int) <= (90 : Int)) else false then decide (t.getD x.toNat (0 : Int) = IntKind.u8.wrap ((IntKind.u8.wrap ((s.getD x.toNat (0 : Int)).add (97 : Int))).sub (65 : Int))) else false then ∃ (y : Int), U.aU s t (IntKind.i64.wrap (x.add (1 : Int))) = U.aU s t y /\ U.cu s t y /\ s.length.sub y.toNat < s.length.sub x.toNat else false = decide (List.map
 aP s = List.map aP t) /\ True else decide ((↑s.length : Int) = (↑t.length : Int)) = decide (List.map aP s = List.map aP t) /\ True
end Go.Proofs.YtdobgidhhpdihaaDoor
set_option linter.unusedSimpArgs false
set_option linter.unusedVariables false
set_option maxRecDepth 100000
namespace Go.Proofs.YtdobgidhhpdihaaDoor
open Go.Vc
open Go.Vc.T
theorem uN {a b : Int} (h1 : -9223372036854775808 <= a + b) (h2 : a + b <= 9223372036854775807) : IntKind.i64.wrap (a.add b) = a + b := rC h1 h2
theorem Nw (l : List Int) (p : Nat) (hp : p < l.length) (hb : ∀ x ∈ l, Byte x) (ha : yH l) : bJ l p = (l[p], 1) := by
 have hm := List.getElem_mem hp
 have h0 := hb _ hm
 have h1 := ha _ hm
 have hsz : p < (bs l).size := by rw [gG]; exact hp
 have hg : ((bs l)[p]'hsz).toNat = l[p].toNat := by
  have e : (bs l)[p]'hsz = UInt8.ofNat l[p].toNat := by simp [bs, ByteArray.getElem_eq_getElem_data]
  rw [e, UInt8.toNat_ofNat']; have := h0.1; have := h0.2; omega
 have := Go.decode_ascii (bs l) p hsz (by rw [hg]; have := h0.1; omega)
 unfold bJ
 rw [this, hg]
 have := h0.1
 show ((l[p].toNat : Int), 1) = _
 rw [show ((l[p].toNat : Nat) : Int) = l[p] by omega]
theorem Me : ∀ k : Fin 256, (0 <= aV.getD k.val 0 /\ aV.getD k.val 0 <= 255) /\ (aV.getD k.val 0 >= 240 -> T.orK .i32 (T.nV .i32 (IntKind.i32.wrap (k.val : Int)) ((IntKind.i32.wrap (IntKind.i32.wrap (aV.getD k.val 0) * 2147483648)).fdiv 2147483648)) (T.iU .i32 65533 ((IntKind.i32.wrap (IntKind.i32.wrap (aV.getD k.val 0) * 2147483648)).fdiv 2147483648)) = cond (decide ((k.val : Int) < 128)) (k.val : Int) 65533) /\
 (aV.getD k.val 0 < 240 -> 2 <= IntKind.i64.wrap (T.iU .u8 (aV.getD k.val 0) 7) /\ IntKind.i64.wrap (T.iU .u8 (aV.getD k.val 0) 7) <= 4) /\ (0 <= (aV.getD k.val 0).fdiv 16 /\ (aV.getD k.val 0).fdiv 16 < 16) := by decide +kernel
theorem AU {l : List Int} (hv : Valid .str l) (h : l ≠ []) : (0 <= U.s0 l /\ U.s0 l <= 255) /\ (U.f8 l >= 240 -> T.orK .i32 (T.nV .i32 (IntKind.i32.wrap (U.s0 l)) ((IntKind.i32.wrap (IntKind.i32.wrap (U.f8 l) * 2147483648)).fdiv 2147483648)) (T.iU .i32 65533 ((IntKind.i32.wrap (IntKind.i32.wrap (U.f8 l) * 2147483648)).fdiv 2147483648)) = U.Dc l) /\
 (U.f8 l < 240 -> 2 <= U.szN l /\ U.szN l <= 4) /\ (0 <= (U.f8 l).fdiv 16 /\ (U.f8 l).fdiv 16 < 16) := by
 match l, h with
 | x :: r, _ =>
   have hb := hv.1 x (by simp)
   have hk := Me ⟨x.toNat, by have := hb.1; have := hb.2; omega⟩
   have e : ((x.toNat : Nat) : Int) = x := by have := hb.1; omega
   have hk := hk
   simp only [e] at hk
   exact ⟨hb, hk.2.1, hk.2.2.1, hk.2.2.2⟩
theorem p31 : Int.pow 2 (if (31 : Nat) <= IntKind.i32.bits then (31 : Nat) else IntKind.i32.bits) = 2147483648 := by decide
theorem p18 : Int.pow 2 (if (18 : Nat) <= IntKind.i32.bits then (18 : Nat) else IntKind.i32.bits) = 262144 := by decide
theorem p12 : Int.pow 2 (if (12 : Nat) <= IntKind.i32.bits then (12 : Nat) else IntKind.i32.bits) = 4096 := by decide
theorem p6 : Int.pow 2 (if (6 : Nat) <= IntKind.i32.bits then (6 : Nat) else IntKind.i32.bits) = 64 := by decide
theorem p4 : Int.pow 2 (if (4 : Nat) <= IntKind.u8.bits then (4 : Nat) else IntKind.u8.bits) = 16 := by decide
theorem p1 : Int.pow 2 (if (1 : Nat) <= IntKind.u64.bits then (1 : Nat) else IntKind.u64.bits) = 2 := by decide
theorem jM (l : List Int) (hv : Valid .str l) : dA l := by
 unfold dA
 simp only [C9, DY, wC, p31, p18, p12, p6, p4, Ov, uK]
 by_cases h0 : l = []
 ·subst h0; exact ⟨rfl, rfl, trivial⟩
 have hl : 0 < l.length := List.length_pos_iff.2 h0
 obtain ⟨hs, hm, hz, ha⟩ := AU hv h0
 have e0 : decide (((l.length : Nat) : Int) < 1) = false := decide_eq_false (by omega)
 rw [e0, cond_false]
 refine ⟨Int.le_refl 0, by omega, hs.1, by have := hs.2; show U.s0 l < 256; omega, ?_⟩
 have hd : U.bf l = cond (decide (U.f8 l >= 240)) (U.Dc l, 1) (cond (decide ((l.length : Int) < U.szN l)) (65533, 1)
  (cond (decide (l.getD 1 0 < (U.acc l).1) || decide ((U.acc l).2 < l.getD 1 0)) (65533, 1) (cond (decide (U.szN l <= 2)) (U.r2 l, 2)
  (cond (decide (l.getD 2 0 < 128) || decide (191 < l.getD 2 0)) (65533, 1) (cond (decide (U.szN l <= 3)) (U.r3 l, 3)
  (cond (decide (l.getD 3 0 < 128) || decide (191 < l.getD 3 0)) (65533, 1) (U.r4 l, 4))))))) := by
  unfold U.bf; rw [decide_eq_false h0, cond_false]
 rw [hd]
 show bif decide (U.f8 l >= 240) then _ else _
 by_cases h1 : U.f8 l >= 240
 ·rw [decide_eq_true h1, cond_true]
  exact ⟨by omega, by omega, by omega, by omega, hm h1, rfl, trivial⟩
 rw [decide_eq_false h1, cond_false, cond_false]
 obtain ⟨z1, z2⟩ := hz (by omega)
 refine ⟨by omega, ha.1, ha.2, ?_⟩
 show bif decide ((l.length : Int) < U.szN l) then _ else _
 by_cases h2 : (l.length : Int) < U.szN l
 ·rw [decide_eq_true h2, cond_true]; exact ⟨rfl, rfl, trivial⟩
 rw [decide_eq_false h2, cond_false, cond_false]
 refine ⟨by omega, by omega, ?_⟩
 show bif (decide (l.getD 1 0 < (U.acc l).1) || decide ((U.acc l).2 < l.getD 1 0)) then _ else _
 cases h3 : (decide (l.getD 1 0 < (U.acc l).1) || decide ((U.acc l).2 < l.getD 1 0)) with
 | true => exact ⟨rfl, rfl, trivial⟩
 | false =>
   rw [cond_false, cond_false]
   show bif decide (U.szN l <= 2) then _ else _
   by_cases h4 : U.szN l <= 2
   ·rw [decide_eq_true h4]; exact ⟨by omega, rfl, rfl, trivial⟩
   rw [decide_eq_false h4, cond_false, cond_false]
   refine ⟨by omega, by omega, ?_⟩
   cases h5 : (decide (l.getD 2 0 < 128) || decide (191 < l.getD 2 0)) with
   | true => exact ⟨rfl, rfl, trivial⟩
   | false =>
     rw [cond_false, cond_false]
     show bif decide (U.szN l <= 3) then _ else _
     by_cases h6 : U.szN l <= 3
     ·rw [decide_eq_true h6]; exact ⟨by omega, by omega, rfl, rfl, trivial⟩
     rw [decide_eq_false h6, cond_false, cond_false]
     refine ⟨by omega, by omega, ?_⟩
     cases h7 : (decide (l.getD 3 0 < 128) || decide (191 < l.getD 3 0)) with
     | true => exact ⟨rfl, rfl, trivial⟩
     | false => exact ⟨by omega, by omega, by omega, rfl, rfl, trivial⟩
theorem kW (l : List Int) (hv : Valid .str l) : dP l := by
 unfold dP
 simp only [ru]
 by_cases h0 : l = []
 ·subst h0
  exact ⟨fun h => (by cases h), fun h => (by cases h), rfl, rfl, trivial⟩
 have hl : 0 < l.length := List.length_pos_iff.2 h0
 have e : (!l.beq []) = true := by
  cases l with
  | nil => exact absurd rfl h0
  | cons x r => rfl
 obtain ⟨hs, _⟩ := AU hv h0
 unfold U.bW
 rw [e, decide_eq_false h0]
 refine ⟨fun _ => Int.le_refl 0, fun _ => by omega, ?_⟩
 show bif (true && decide (U.s0 l < 128)) then _ else _
 by_cases h1 : U.s0 l < 128
 ·rw [decide_eq_true h1]
  refine ⟨Int.le_refl 0, by omega, ?_, rfl, trivial⟩
  have : IntKind.i32.wrap (U.s0 l) = U.s0 l := by rw [wrap_i32]; omega
  exact this
 ·rw [decide_eq_false h1]; exact ⟨rfl, rfl, trivial⟩
theorem MB : aB.length = 94 := by decide +kernel
theorem MC : (∀ m : Fin 94, ((IntKind.i32.wrap (aB.getD m.val (0, 0)).1 < 383) ↔ m.val < 10) /\ ((IntKind.i32.wrap (aB.getD m.val (0, 0)).1 < 8490) ↔ m.val < 88)) /\ IntKind.i32.wrap (aB.getD 10 (0, 0)).1 = 383 /\ IntKind.i32.wrap (aB.getD 10 (0, 0)).2 = 83 /\ IntKind.i32.wrap (aB.getD 88 (0, 0)).1 = 8490 /\ IntKind.i32.wrap (aB.getD 88 (0, 0)).2 = 75 := by decide +kernel
theorem AV : ∀ c : Fin 128, IntKind.i32.wrap (bT.getD c.val 0) = bT.getD c.val 0 /\ ((0 <= bT.getD c.val 0 /\ bT.getD c.val 0 < 128) ∨ bT.getD c.val 0 = 383 ∨ bT.getD c.val 0 = 8490) /\
 (U.bI (c.val : Int) = c.val ∨ U.bI (U.bI (c.val : Int)) = c.val ∨ U.bI (U.bI (U.bI (c.val : Int))) = c.val) := by decide +kernel
theorem wE (r : Int) (h : U.jw r) : jy r := by
 unfold jy U.dB
 have hr : 0 <= r /\ r <= 8490 := by unfold U.jw at h; omega
 simp only [uK, ru, p1, MB]
 have e1 : (decide (r < 0) || decide (r > 1114111)) = false := by rw [decide_eq_false (by omega), decide_eq_false (by omega)]; rfl
 rw [e1, cond_false, rC (x := r) (by omega) (by omega)]
 by_cases h1 : r < 128
 ·rw [decide_eq_true h1, cond_true]
  have hk := (AV ⟨r.toNat, by omega⟩).1
  refine ⟨hr.1, h1, ?_, trivial⟩
  unfold U.bI
  rw [decide_eq_true h1, cond_true]; exact hk
 rw [decide_eq_false h1, cond_false]
 have hp : U.D5 r = (if r = 383 then 10 else 88) /\ (r = 383 ∨ r = 8490) := by
  unfold U.jw at h; unfold U.D5
  rcases h with h | h | h
  ·omega
  ·subst h; exact ⟨rfl, .inl rfl⟩
  ·subst h; exact ⟨rfl, .inr rfl⟩
 obtain ⟨hp, hr2⟩ := hp
 obtain ⟨k1, k2, k3, k4, k5⟩ := MC
 have hlt : ∀ m : Nat, m < 94 -> (IntKind.i32.wrap (aB.getD m (0, 0)).1 < r ↔ (m : Int) < U.D5 r) := by
  intro m hm
  have := k1 ⟨m, hm⟩
  rw [hp]
  rcases hr2 with rfl | rfl
  ·rw [if_pos rfl]; have := this.1; dsimp only at this; omega
  ·rw [if_neg (by decide)]; have := this.2; dsimp only at this; omega
 refine ⟨(0, 94), ⟨rfl, by dsimp only; omega, by dsimp only; omega, by dsimp only; omega, by dsimp only; rw [hp]; split <;> omega, by dsimp only; rw [hp]; split <;> omega⟩, ?_⟩
 rintro ⟨lo, hi⟩ ⟨i1, i2, i3, i4, i5⟩
 dsimp only at i1 i2 i3 i4 i5 ⊢
 rw [cond_prop]
 refine ⟨fun hc => ?_, fun hc => ?_⟩
 ·have hc : lo < hi := of_decide_eq_true hc
  have hm : IntKind.i64.wrap ((IntKind.u64.wrap (IntKind.i64.wrap (lo + hi))).fdiv 2) = (lo + hi) / 2 := by
   rw [rC (x := lo + hi) (by omega) (by omega), wrap_u64, Int.emod_eq_of_lt (by omega) (by omega), Int.fdiv_eq_ediv_of_nonneg _ (by omega), rC (by omega) (by omega)]
  simp only [JC, JD]
  simp only [hm]
  have hm2 := hlt ((lo + hi) / 2).toNat (by omega)
  rw [show ((((lo + hi) / 2).toNat : Nat) : Int) = (lo + hi) / 2 by omega] at hm2
  refine ⟨by omega, by omega, by omega, ?_⟩
  rw [cond_prop]
  refine ⟨fun hd => ?_, fun hd => ?_⟩
  ·have hd := hm2.1 (of_decide_eq_true hd)
   rw [rC (by omega) (by omega)]
   exact ⟨((lo + hi) / 2 + 1, hi), rfl, ⟨by dsimp only; omega, by dsimp only; omega, by dsimp only; omega, by dsimp only; omega, by dsimp only; omega⟩, by dsimp only; omega⟩
  ·have hd := mt hm2.2 (of_decide_eq_false hd)
   exact ⟨(lo, (lo + hi) / 2), rfl, ⟨by dsimp only; omega, by dsimp only; omega, by dsimp only; omega, by dsimp only; omega, by dsimp only; omega⟩, by dsimp only; omega⟩
 ·have hc : ¬ lo < hi := of_decide_eq_false hc
  have hlo : lo = U.D5 r := by omega
  have hlo2 : lo < 94 := by rw [hlo, hp]; split <;> omega
  have e2 : decide (lo < ((94 : Nat) : Int)) = true := decide_eq_true (by omega)
  refine ⟨fun _ => i1, fun _ => hlo2, ?_⟩
  rw [e2, Bool.true_and]
  rw [hlo, hp]
  rcases hr2 with rfl | rfl
  ·rw [if_pos rfl]
   show bif decide (IntKind.i32.wrap (aB.getD 10 (0, 0)).1 = 383) then _ else _
   rw [k2]
   exact ⟨by omega, by omega, k3, trivial⟩
  ·rw [if_neg (by decide)]
   show bif decide (IntKind.i32.wrap (aB.getD 88 (0, 0)).1 = 8490) then _ else _
   rw [k4]
   exact ⟨by omega, by omega, k5, trivial⟩
theorem Pn : ∀ a : Fin 128, ∀ b : Fin 256, (T.orK .u8 (a.val : Int) (b.val : Int) >= 128 ↔ b.val >= 128) := by decide +kernel
theorem H9 {q : Int} (h : U.jw q) : U.jw (U.bI q) := by
 rcases h with h | h | h
 ·have := (AV ⟨q.toNat, by omega⟩).2.1
  unfold U.jw U.bI
  rw [decide_eq_true h.2, cond_true]; exact this
 ·subst h; exact .inl (by decide)
 ·subst h; exact .inl (by decide)
theorem Ny {c : Int} (h : 0 <= c /\ c < 128) : U.bI c = c ∨ U.bI (U.bI c) = c ∨ U.bI (U.bI (U.bI c)) = c := by
 have := (AV ⟨c.toNat, by omega⟩).2.2
 rw [show (((⟨c.toNat, by omega⟩ : Fin 128).val : Nat) : Int) = c by show ((c.toNat : Nat) : Int) = c; omega] at this
 exact this
theorem La {T : List Int} (hv : Valid .str T) (h0 : T ≠ []) : 1 <= (U.bW T).2 /\ (U.bW T).2 <= T.length /\ ((U.bW T).2 = 1 -> 128 <= U.s0 T -> (U.bW T).1 = 65533) := by
 have hl : 0 < T.length := List.length_pos_iff.2 h0
 obtain ⟨hs, hm, hz, ha⟩ := AU hv h0
 unfold U.bW
 rw [decide_eq_false h0]
 by_cases h1 : U.s0 T < 128
 ·rw [decide_eq_true h1]
  refine ⟨Int.le_refl 1, by show (1 : Int) <= _; omega, fun _ h => by omega⟩
 rw [decide_eq_false h1]
 show 1 <= (U.bf T).2 /\ (U.bf T).2 <= T.length /\ ((U.bf T).2 = 1 -> 128 <= U.s0 T -> (U.bf T).1 = 65533)
 unfold U.bf
 rw [decide_eq_false h0, cond_false]
 by_cases h2 : U.f8 T >= 240
 ·rw [decide_eq_true h2, cond_true]
  refine ⟨Int.le_refl 1, by show (1 : Int) <= _; omega, fun _ _ => ?_⟩
  show U.Dc T = 65533
  unfold U.Dc; rw [decide_eq_false h1]; rfl
 rw [decide_eq_false h2, cond_false]
 obtain ⟨z1, z2⟩ := hz (by omega)
 have one : ∀ x : Int × Int, x = (65533, 1) -> 1 <= x.2 /\ x.2 <= (T.length : Int) /\ (x.2 = 1 -> 128 <= U.s0 T -> x.1 = 65533) := fun x hx => by subst hx; exact ⟨Int.le_refl 1, by show (1 : Int) <= _; omega, fun _ _ => rfl⟩
 have more : ∀ (r k : Int), 2 <= k -> k <= T.length -> 1 <= ((r, k) : Int × Int).2 /\ ((r, k) : Int × Int).2 <= (T.length : Int) /\ (((r, k) : Int × Int).2 = 1 -> 128 <= U.s0 T -> ((r, k) : Int × Int).1 = 65533) := fun r k h1 h2 => ⟨by show (1 : Int) <= k; omega, h2, fun h _ => by have h : k = 1 := h; omega⟩
 by_cases h3 : (T.length : Int) < U.szN T
 ·rw [decide_eq_true h3, cond_true]; exact one _ rfl
 rw [decide_eq_false h3, cond_false]
 cases (decide (T.getD 1 0 < (U.acc T).1) || decide ((U.acc T).2 < T.getD 1 0)) with
 | true => exact one _ rfl
 | false =>
   rw [cond_false]
   by_cases h4 : U.szN T <= 2
   ·rw [decide_eq_true h4, cond_true]; exact more _ 2 (by omega) (by omega)
   rw [decide_eq_false h4, cond_false]
   cases (decide (T.getD 2 0 < 128) || decide (191 < T.getD 2 0)) with
   | true => exact one _ rfl
   | false =>
     rw [cond_false]
     by_cases h5 : U.szN T <= 3
     ·rw [decide_eq_true h5, cond_true]; exact more _ 3 (by omega) (by omega)
     rw [decide_eq_false h5, cond_false]
     cases (decide (T.getD 3 0 < 128) || decide (191 < T.getD 3 0)) with
     | true => exact one _ rfl
     | false => exact more _ 4 (by omega) (by omega)
theorem Po {s t : List Int} {i : Nat} (hs : i < s.length) (ht : i < t.length) (h : aP s[i] ≠ aP t[i]) : decide (s.map aP = t.map aP) = false := by
 rw [decide_eq_false_iff_not]
 intro e
 have := congrArg (fun l => l[i]?) e
 simp only [List.getElem?_map, List.getElem?_eq_getElem hs, List.getElem?_eq_getElem ht, Option.map_some, Option.some.injEq] at this
 exact h this
theorem Nz {s t : List Int} {i : Int} (i0 : 0 <= i) (hs : i < s.length) (ht : i < t.length) (h : (s.take i.toNat).map aP = (t.take i.toNat).map aP) (hx : aP (s[i.toNat]'(by omega)) = aP (t[i.toNat]'(by omega))) : (s.take (i + 1).toNat).map aP = (t.take (i + 1).toNat).map aP := by
 rw [take_at i0 hs, take_at i0 ht, List.map_append, List.map_append, h, List.map_singleton, List.map_singleton, hx]
theorem wO (s t : List Int) (hs : Valid .str s) (ht : Valid .str t) (hp : yH s /\ s.length = t.length /\ s.length <= 1000) : jH s t := by
 obtain ⟨hasc, hlen, hle⟩ := hp
 unfold jH
 simp only [uK, ru, C9]
 have hmin : FN (s.length : Int) (t.length : Int) = s.length := by rw [Ox, hlen]; omega
 refine ⟨0, ⟨by rw [hmin]; rfl, ⟨Int.le_refl 0, by omega⟩, hlen, rfl⟩, ?_⟩
 rintro i ⟨⟨i0, i1⟩, _, hI⟩
 rw [cond_prop]
 refine ⟨fun hi => ?_, fun hi => ?_⟩
 ·have hi : i < s.length := of_decide_eq_true hi
  have hit : i < t.length := by omega
  rw [getD_at (by omega : i.toNat < s.length), getD_at (by omega : i.toNat < t.length)]
  have hx := hs.1 _ (List.getElem_mem (show i.toNat < s.length by omega))
  have hxa := hasc _ (List.getElem_mem (show i.toNat < s.length by omega))
  have hy := ht.1 _ (List.getElem_mem (show i.toNat < t.length by omega))
  have hok := Pn ⟨(s[i.toNat]'(by omega)).toNat, by have := hx.1; omega⟩ ⟨(t[i.toNat]'(by omega)).toNat, by have := hy.1; have := hy.2; omega⟩
  have ex : (((s[i.toNat]'(by omega)).toNat : Nat) : Int) = s[i.toNat]'(by omega) := by have := hx.1; omega
  have ey : (((t[i.toNat]'(by omega)).toNat : Nat) : Int) = t[i.toNat]'(by omega) := by have := hy.1; omega
  simp only [ex, ey] at hok
  have hfin : aP (s[i.toNat]'(by omega)) ≠ aP (t[i.toNat]'(by omega)) -> decide (s.map aP = t.map aP) = false := fun h => Po (by omega) (by omega) h
  have hstep : aP (s[i.toNat]'(by omega)) = aP (t[i.toNat]'(by omega)) -> (s.take (i + 1).toNat).map aP = (t.take (i + 1).toNat).map aP := fun h => Nz i0 hi hit hI h
  have hw : IntKind.i64.wrap (i.add 1) = i + 1 := uN (by omega) (by omega)
  refine ⟨i0, hi, i0, hit, ?_⟩
  rw [cond_prop]
  generalize hxe : s[i.toNat]'(by omega) = x at *
  generalize hye : t[i.toNat]'(by omega) = y at *
  refine ⟨fun h => ?_, fun h => ?_⟩
  ·have h := hok.1 (of_decide_eq_true h)
   have hne : decide (s.map aP = t.map aP) = false := hfin (by unfold aP; (repeat' split) <;> omega)
   rw [hne]
   have hS : List.take ((s.length : Int).toNat.sub i.toNat) (List.drop i.toNat s) = s.drop i.toNat := List.take_of_length_le (by rw [List.length_drop]; simp only [jG]; omega)
   have hT : List.take ((t.length : Int).toNat.sub i.toNat) (List.drop i.toNat t) = t.drop i.toNat := List.take_of_length_le (by rw [List.length_drop]; simp only [jG]; omega)
   rw [hS, hT]
   have hT0 : t.drop i.toNat = y :: t.drop (i + 1).toNat := by rw [drop_at i0 hit, hye]
   refine ⟨i0, by omega, Int.le_refl _, i0, by omega, Int.le_refl _, (s.drop i.toNat, 0, t.drop i.toNat), ⟨rfl, rfl, fun z hz => hasc z (List.mem_of_mem_drop hz), fun z hz => hs.1 z (List.mem_of_mem_drop hz), fun z hz => ht.1 z (List.mem_of_mem_drop hz), Nat.zero_le _, .inr ⟨by dsimp only; rw [List.length_drop, List.length_drop]; omega, by rw [hT0]; exact List.cons_ne_nil _ _, by rw [hT0]; show 128 <= y; have := hy.1; omega⟩⟩, ?_⟩
   have hS0 : (s.drop i.toNat).length <= 1000 := by rw [List.length_drop]; omega
   generalize s.drop i.toNat = S0 at hS0
   rintro ⟨S, p, T⟩ ⟨hSS, ha, hb, htb, hpS, hbad⟩
   dsimp only at hSS ha hb htb hpS hbad ⊢
   refine ⟨fun hp => ?_, fun hp => ?_⟩
   ·rw [Nw S p hp hb ha]
    dsimp only
    have hc := hb _ (List.getElem_mem hp)
    have hca := ha _ (List.getElem_mem hp)
    rw [cond_prop]
    refine ⟨fun _ => ⟨rfl, trivial⟩, fun hT0 => ?_⟩
    have hT0 : ¬ (T.length : Int) = 0 := of_decide_eq_false hT0
    have Qn : T ≠ [] := fun e => hT0 (by rw [e]; rfl)
    have hTl : T.length <= 1000000 := by
     unfold U.bad at hbad
     rw [<- hSS] at hS0
     omega
    obtain ⟨f1, f2, f3⟩ := La (T := T) ⟨htb, by show T.length <= 9223372036854775807; omega⟩ Qn
    have hTT : List.take ((T.length : Int).toNat.sub (U.bW T).2.toNat) (List.drop (U.bW T).2.toNat T) = T.drop (U.bW T).2.toNat := List.take_of_length_le (by rw [List.length_drop]; simp only [jG]; omega)
    rw [hTT]
    generalize S[p] = c at *
    generalize hr : (U.bW T).1 = r at *
    generalize (U.bW T).2 = z at *
    have nxt : ¬ (z = 1 /\ 128 <= U.s0 T) -> U.bad (S.length - (p + 1)) (T.drop z.toNat) := fun h => by
     left
     rw [List.length_drop]
     rcases hbad with hb | ⟨hb, _, h8⟩
     ·omega
     ·have : z ≠ 1 := fun e => h ⟨e, h8⟩
      omega
    have go : ¬ (z = 1 /\ 128 <= U.s0 T) -> ∃ y : List Int × Nat × List Int, U.aI S (p.add 1) (T.drop z.toNat) = U.aI y.1 y.2.1 y.2.2 /\ U.bn S0 0 (t.drop i.toNat) y.1 y.2.1 y.2.2 /\ y.1.length.sub y.2.1 < S.length.sub p :=
     fun h => ⟨(S, p + 1, T.drop z.toNat), rfl, ⟨hSS, ha, hb, fun z hz => htb z (List.mem_of_mem_drop hz), by dsimp only; omega, nxt h⟩, by simp only [jG]; omega⟩
    refine ⟨by omega, f2, Int.le_refl _, ?_⟩
    rw [cond_prop]
    refine ⟨fun e => go fun h => ?_, fun e => ?_⟩
    ·have e : r = c := of_decide_eq_true e
     have := f3 h.1 h.2; omega
    rw [cond_prop]
    refine ⟨fun e1 => ?_, fun e1 => ?_⟩
    ·have e1 : r < c := of_decide_eq_true e1
     rw [decide_eq_true (show c < 128 from hca), cond_true, cond_prop]
     refine ⟨fun _ => go fun h => ?_, fun _ => ⟨rfl, trivial⟩⟩
     have := f3 h.1 h.2; omega
    ·rw [cond_prop]
     refine ⟨fun e2 => ?_, fun e2 => ?_⟩
     ·have e2 : r < 128 := of_decide_eq_true e2
      rw [cond_prop]
      refine ⟨fun _ => go fun h => ?_, fun _ => ⟨rfl, trivial⟩⟩
      have := f3 h.1 h.2; omega
     ·have Pq : U.jw c := .inl ⟨hc.1, hca⟩
      refine ⟨Pq, (S, p + 1, T.drop z.toNat, c, r, U.bI c), ⟨rfl, rfl, rfl, rfl, rfl, rfl, H9 Pq, Ny ⟨hc.1, hca⟩⟩, ?_⟩
      rintro ⟨S1, p1, T1, c1, r1, q⟩ ⟨k1, k2, k3, k4, k5, hq, hk⟩
      dsimp only at k1 k2 k3 k4 k5 hq hk ⊢
      subst k1 k2 k3 k4 k5
      rw [cond_prop]
      refine ⟨fun e3 => ?_, fun e3 => ?_⟩
      ·simp only [Bool.and_eq_true, bne_iff_ne, ne_eq, decide_eq_true_eq] at e3
       have hqc := e3.1
       have hk2 : U.bI q = c1 ∨ U.bI (U.bI q) = c1 := by
        rcases hk with h | h | h
        ·exact absurd h hqc
        ·exact .inl h
        ·exact .inr h
       refine ⟨hq, (S1, p + 1, T.drop z.toNat, c1, r1, U.bI q), rfl, ⟨rfl, rfl, rfl, rfl, rfl, H9 hq, by rcases hk2 with h | h; exact .inl h; exact .inr (.inl h)⟩, ?_⟩
       dsimp only
       rw [decide_eq_false hqc, cond_false]
       by_cases h1 : U.bI q = c1
       ·rw [decide_eq_true h1]; exact Nat.zero_lt_one
       ·rw [decide_eq_false h1, cond_false, cond_false, decide_eq_true (hk2.resolve_left h1)]; exact Nat.lt_succ_self 1
      ·rw [cond_prop]
       refine ⟨fun e4 => go fun h => ?_, fun _ => ⟨rfl, trivial⟩⟩
       have e4 : q = r1 := of_decide_eq_true e4
       have := f3 h.1 h.2
       unfold U.jw at hq; omega
   ·exfalso
    unfold U.bad at hbad
    rcases hbad with h | ⟨h, h2, _⟩
    ·omega
    ·exact h2 (List.length_eq_zero_iff.1 (by omega))
  ·have go : aP x = aP y -> ∃ y : Int, U.aU s t (IntKind.i64.wrap (i.add 1)) = U.aU s t y /\ U.cu s t y /\ s.length.sub y.toNat < s.length.sub i.toNat := fun h => by
    rw [hw]; exact ⟨i + 1, rfl, ⟨⟨by omega, by omega⟩, hlen, hstep h⟩, by simp only [jG]; omega⟩
   have fin : aP x ≠ aP y -> false = decide (s.map aP = t.map aP) /\ True := fun h => ⟨(hfin h).symm, trivial⟩
   clear hok hstep hfin h
   have hx1 := hx.1; have hy1 := hy.1; have hx2 := hx.2; have hy2 := hy.2
   rw [cond_prop]
   refine ⟨fun h1 => go (by rw [of_decide_eq_true h1]), fun h1 => ?_⟩
   have h1 := of_decide_eq_false h1
   have wr : ∀ z : Int, 65 <= z -> z <= 90 -> IntKind.u8.wrap ((IntKind.u8.wrap (z.add 97)).sub 65) = z + 32 := fun z h1 h2 => by rw [JC, JD, wrap_u8, wrap_u8]; omega
   rw [cond_prop]
   refine ⟨fun h2 => ?_, fun h2 => ?_⟩
   ·have h2 := of_decide_eq_true h2
    rw [cond_prop]
    refine ⟨fun h3 => go ?_, fun h3 => fin ?_⟩
    ·simp only [Bool.and_eq_true, decide_eq_true_eq] at h3
     rw [wr y h3.1.1 h3.1.2] at h3
     unfold aP; (repeat' split) <;> omega
    ·by_cases h4 : 65 <= y /\ y <= 90
     ·rw [wr y h4.1 h4.2, decide_eq_true h4.1, decide_eq_true h4.2] at h3
      have h3 := of_decide_eq_false (by simpa using h3)
      unfold aP; (repeat' split) <;> omega
     ·unfold aP; (repeat' split) <;> omega
   ·have h2 := of_decide_eq_false h2
    rw [cond_prop]
    refine ⟨fun h3 => go ?_, fun h3 => fin ?_⟩
    ·simp only [Bool.and_eq_true, decide_eq_true_eq] at h3
     rw [wr x h3.1.1 h3.1.2] at h3
     unfold aP; (repeat' split) <;> omega
    ·by_cases h4 : 65 <= x /\ x <= 90
     ·rw [wr x h4.1 h4.2, decide_eq_true h4.1, decide_eq_true h4.2] at h3
      have h3 := of_decide_eq_false (by simpa using h3)
      unfold aP; (repeat' split) <;> omega
     ·unfold aP; (repeat' split) <;> omega
 ·have hi : ¬ i < s.length := of_decide_eq_false hi
  rw [H6 (by omega), H6 (by omega)] at hI
  rw [hI, decide_eq_true rfl, decide_eq_true (by omega)]
  exact ⟨rfl, trivial⟩
end Go.Proofs.YtdobgidhhpdihaaDoor
set_option linter.unusedSimpArgs false
set_option maxRecDepth 100000
set_option linter.unusedVariables false
namespace Go.Proofs.YtdobgidhhpdihaaDoor
open Go.Vc
theorem jW (x : aW [.str]) : lF Tryd.prog (iM []) (fK x) 26 (jv [.str] x) [] (dG x) = dA x := by kernel_rfl
theorem jX : Pok 26 [.str] (fun x => dG x) := by
 refine pk (L := fun x => fK x) (l := []) Md (fun _ => rfl) ?_
 intro x hv hp
 rw [jW]
 exact jM x hv
theorem jY : kP Tryd.prog gl 26 fJ := jX
theorem fA : gZ bM := .cons jY Md
theorem lH (x : aW [.str]) : lF Tryd.prog (iM bM) (gY x) 21 (jv [.str] x) [] (dU x) = dP x := by kernel_rfl
theorem lI : Pok 21 [.str] (fun x => dU x) := by
 refine pk (L := fun x => gY x) (l := bM) fA (fun _ => rfl) ?_
 intro x hv hp
 rw [lH]
 exact kW x hv
theorem lJ : kP Tryd.prog gl 21 gX := lI
theorem gB : gZ cO := .cons lJ fA
theorem wP (x : aW [.int .i32]) : lF Tryd.prog (iM cO) (nD x) 22 (jv [.int .i32] x) [] (ig x) = jy x := by kernel_rfl
theorem wQ : Pok 22 [.int .i32] (fun x => ig x) := by
 refine pk (L := fun x => nD x) (l := cO) gB (fun _ => rfl) ?_
 intro x hv hp
 rw [wP]
 exact wE x (hp (U.jw x) (by simp [ig]))
theorem wR : kP Tryd.prog gl 22 nC := wQ
theorem ni : gZ iq := .cons wR gB
theorem yI (x : aW [.str, .str]) : lF Tryd.prog (iM iq) (oW x.1 x.2) 17 (jv [.str, .str] x) [] (iO x.1 x.2) = jH x.1 x.2 := by kernel_rfl
theorem yJ : Pok 17 [.str, .str] (fun x => iO x.1 x.2) := by
 refine pk (L := fun x => oW x.1 x.2) (l := iq) ni (fun _ => rfl) ?_
 intro x hv hp
 rw [yI]
 exact wO x.1 x.2 hv.1 hv.2 (hp (yH x.1 /\ List.length (α := Int) x.1 = List.length (α := Int) x.2 /\ List.length (α := Int) x.1 <= 1000) (by simp [iO]))
theorem yK : kP Tryd.prog gl 17 oV := yJ
theorem wS : gZ oZ := .cons yK ni
theorem E5 : kP Tryd.prog gl 20 wL := Pj (fn := Tryd.f20) Tryd.func20 (by kernel_rfl) rfl Tryd.strings_Join_none Tryd.strings_Join
theorem uO : gZ lu := .cons E5 wS
end Go.Proofs.YtdobgidhhpdihaaDoor
