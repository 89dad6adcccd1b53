/- What functions of this seat compute, in plain Lean. -/
import Derived.Test.YtdobgidhhpdihaaDoorWZ
import Derived.Test.YtdobgidhhpdihaaDoorWVcG
import Derived.Test.YtdobgidhhpdihaaDoorWS
set_option linter.unusedVariables false
set_option linter.unusedSimpArgs false
set_option maxRecDepth 100000
namespace Go.Proofs.YtdobgidhhpdihaaDoor
open Go.Vc
namespace U
def s0 (l : List Int) : Int := l.getD 0 0
def f8 (l : List Int) : Int := aW.getD (s0 l).toNat 0
def szN (l : List Int) : Int := IntKind.i64.wrap (T.jy .u8 (f8 l) 7)
def acc (l : List Int) : Int × Int := iR.getD ((f8 l).fdiv 16).toNat (0, 0)
def CO (l : List Int) : Int := cond (decide (s0 l < 128)) (s0 l) 65533
def r2 (l : List Int) : Int := T.orK .i32 (IntKind.i32.wrap (IntKind.i32.wrap (T.jy .u8 (s0 l) 31) * 64)) (IntKind.i32.wrap (T.jy .u8 (l.getD 1 0) 63))
def r3 (l : List Int) : Int := T.orK .i32 (T.orK .i32 (IntKind.i32.wrap (IntKind.i32.wrap (T.jy .u8 (s0 l) 15) * 4096)) (IntKind.i32.wrap (IntKind.i32.wrap (T.jy .u8 (l.getD 1 0) 63) * 64))) (IntKind.i32.wrap (T.jy .u8 (l.getD 2 0) 63))
def r4 (l : List Int) : Int := T.orK .i32 (T.orK .i32 (T.orK .i32 (IntKind.i32.wrap (IntKind.i32.wrap (T.jy .u8 (s0 l) 7) * 262144)) (IntKind.i32.wrap (IntKind.i32.wrap (T.jy .u8 (l.getD 1 0) 63) * 4096))) (IntKind.i32.wrap (IntKind.i32.wrap (T.jy .u8 (l.getD 2 0) 63) * 64))) (IntKind.i32.wrap (T.jy .u8 (l.getD 3 0) 63))
def bg (l : List Int) : Int × Int := cond (decide (l = [])) (65533, 0) (cond (decide (f8 l >= 240)) (CO l, 1) (cond (decide ((l.length : Int) < szN l)) (65533, 1)
 (cond (decide (l.getD 1 0 < (acc l).1) || decide ((acc l).2 < l.getD 1 0)) (65533, 1) (cond (decide (szN l <= 2)) (r2 l, 2)
 (cond (decide (l.getD 2 0 < 128) || decide (191 < l.getD 2 0)) (65533, 1) (cond (decide (szN l <= 3)) (r3 l, 3)
 (cond (decide (l.getD 3 0 < 128) || decide (191 < l.getD 3 0)) (65533, 1) (r4 l, 4))))))))
def bV (l : List Int) : Int × Int := cond (!(decide (l = [])) && decide (s0 l < 128)) (s0 l, 1) (bg l)
def bI (r : Int) : Int := cond (decide (r < 128)) (bQ.getD r.toNat 0) (cond (decide (r = 383)) 83 75)
def DK (r : Int) : Int := cond (decide (r = 383)) 10 88
def bad (n : Nat) (t : List Int) : Prop := t.length < n ∨ (t.length = n /\ t ≠ [] /\ 128 <= s0 t)
def jk (r : Int) : Prop := (0 <= r /\ r < 128) ∨ r = 383 ∨ r = 8490
end U
namespace U
def bP (r : Int) (lo : Int) (hi : Int) : St2 := ⟨⟨[sK .i32 r] ++ U.n 2 ++ [sI lo] ++ [sI hi] ++ U.n 75, [], []⟩, 0, []⟩
def dw (r : Int)  (lo : Int) (hi : Int) : Prop := 0 <= lo /\ lo <= hi /\ hi <= aC.length /\ lo <= DK r /\ DK r <= hi
def aV (s t : List Int) (i : Int) : St2 := ⟨⟨[sS s] ++ [sS t] ++ U.n 3 ++ [sI i] ++ [sI s.length] ++ U.n 116, [], []⟩, 0, []⟩
def bZ (s t : List Int)  (i : Int) : Prop := at_ s i /\ s.length = t.length /\ (s.take i.toNat).map aO = (t.take i.toNat).map aO
def aJ  (S : List Int) (p : Nat) (T : List Int) : St2 := ⟨⟨U.n 1 ++ [sS T] ++ U.n 65 ++ [some (.one (.hid 0))] ++ U.n 55, [], [(0, .hid (.iter S p))]⟩, 1, []⟩
def bn  (S' : List Int) (p' : Nat) (T' : List Int) (S : List Int) (p : Nat) (T : List Int) : Prop :=  S = S' /\ yw S /\ (∀ x ∈ S, Byte x) /\ (∀ x ∈ T, Byte x) /\ p <= S.length /\ bad (S.length - p) T
def bf  (S : List Int) (p : Nat) (T : List Int) (c : Int) (tr : Int) (r : Int) : St2 := ⟨⟨U.n 1 ++ [sS T] ++ U.n 8 ++ [sK .i32 c] ++ [sK .i32 tr] ++ U.n 1 ++ [sK .i32 r] ++ U.n 53 ++ [some (.one (.hid 0))] ++ U.n 55, [], [(0, .hid (.iter S p))]⟩, 1, []⟩
def bT  (S' : List Int) (p' : Nat) (T' : List Int) (c' : Int) (tr' : Int) (r' : Int) (S : List Int) (p : Nat) (T : List Int) (c : Int) (tr : Int) (r : Int) : Prop :=  S = S' /\ p = p' /\ T = T' /\ c = c' /\ tr = tr' /\ jk r /\ (r = c ∨ bI r = c ∨ bI (bI r) = c)
end U
def sQ (r : Int) : Vc.Loop := ⟨{ keep := [0, 3, 4] }, Int × Int, fun x => U.bP r x.1 x.2, fun x0 x => U.dw r  x.1 x.2, fun x => (x.2 - x.1).toNat, fun p => ∀ x, p x, fun _ h => h⟩
def uD (s t : List Int) : Vc.Loop := ⟨{ keep := [0, 1, 5, 6] }, Int, fun x => U.aV s t x, fun x0 x => U.bZ s t  x, fun x => s.length - x.toNat, fun p => ∀ x, p x, fun _ h => h⟩
def sU  : Vc.Loop := ⟨{ keep := [1, 67] }, List Int × Nat × List Int, fun x => U.aJ  x.1 x.2.1 x.2.2, fun x0 x => U.bn  x0.1 x0.2.1 x0.2.2 x.1 x.2.1 x.2.2, fun x => x.1.length - x.2.1, fun p => ∀ x, p x, fun _ h => h⟩
def sV  : Vc.Loop := ⟨{ keep := [1, 10, 11, 13, 67] }, List Int × Nat × List Int × Int × Int × Int, fun x => U.bf  x.1 x.2.1 x.2.2.1 x.2.2.2.1 x.2.2.2.2.1 x.2.2.2.2.2, fun x0 x => U.bT  x0.1 x0.2.1 x0.2.2.1 x0.2.2.2.1 x0.2.2.2.2.1 x0.2.2.2.2.2 x.1 x.2.1 x.2.2.1 x.2.2.2.1 x.2.2.2.2.1 x.2.2.2.2.2, fun x => cond (decide (x.2.2.2.2.2 = x.2.2.2.1)) 0 (cond (decide (U.bI x.2.2.2.2.2 = x.2.2.2.1)) 1 2), fun p => ∀ x, p x, fun _ h => h⟩
def dD (l : List Int) : Done := ⟨[], .tup [one (.int .i32 (U.bg l).1), one (.int .i64 (U.bg l).2)], [], []⟩
def fG : Vc.Sum := .pure [.str] false fun x => dD x
def fH (l : List Int) : Nat -> List V -> Nat -> Option Vc.Loop := wU
def bM : List (Nat × Ent) := (26, .sum fG) :: []
def dQ (l : List Int) : Done := ⟨[], .tup [one (.int .i32 (U.bV l).1), one (.int .i64 (U.bV l).2)], [], []⟩
def gV : Vc.Sum := .pure [.str] false fun x => dQ x
def gW (l : List Int) : Nat -> List V -> Nat -> Option Vc.Loop := wU
def cu : List (Nat × Ent) := (21, .sum gV) :: bM
def gX (r : Int) : Done := ⟨[U.jk r], .one (.int .i32 (U.bI r)), [], []⟩
def mY : Vc.Sum := .pure [.int .i32] false fun x => gX x
def mZ (r : Int) : Nat -> List V -> Nat -> Option Vc.Loop := fun f v k => cond (Nat.beq f 22 && Nat.beq k 7) (some (sQ r)) <| none
def gY : List (Nat × Ent) := (22, .sum mY) :: cu
def iL (s : List Int) (t : List Int) : Done := ⟨[yw s /\ s.length = t.length /\ s.length <= 1000], .one (.bool (decide (s.map aO = t.map aO))), [], []⟩
def oM : Vc.Sum := .pure [.str, .str] false fun x => iL x.1 x.2
def oN (s : List Int) (t : List Int) : Nat -> List V -> Nat -> Option Vc.Loop := fun f v k => cond (Nat.beq f 17 && Nat.beq k 3) (some (uD s t)) <| cond (Nat.beq f 17 && Nat.beq k 17) (some (sU)) <| cond (Nat.beq f 17 && Nat.beq k 30) (some (sV)) <| none
def oO : List (Nat × Ent) := (17, .sum oM) :: gY
def wB : Vc.Sum := .gen Kz
def kX : List (Nat × Ent) := (20, .sum wB) :: oO
end Go.Proofs.YtdobgidhhpdihaaDoor
set_option maxRecDepth 100000
set_option linter.unusedVariables false
namespace Go.Proofs.YtdobgidhhpdihaaDoor
open Go.Vc
def dn (l : List Int) : Prop := bif decide ((↑l.length : Int) < (1 : Int)) then (65533 : Int) = (U.bg l).1 /\ (0 : Int) = (U.bg l).2 /\ True else (0 : Int) <= (0 : Int) /\ (0 : Int) < (↑l.length : Int) /\ (0 : Int) <= l.getD (0 : Nat) (0 : Int) /\ l.getD (0 : Nat) (0 : Int) < (↑(256 : Nat) : Int) /\ bif decide (aW.getD (l.getD (0 : Nat) (0 : Int)).toNat
 (0 : Int) >= (240 : Int)) then (0 : Int) <= (31 : Int) /\ (0 : Int) <= (31 : Int) /\ (0 : Int) <= (0 : Int) /\ (0 : Int) < (↑l.length : Int) /\ IntKind.i32.wrap (↑((BitVec.ofInt IntKind.i32.bits (IntKind.i32.wrap (↑((BitVec.ofInt IntKind.i32.bits (IntKind.i32.wrap (l.getD (0 : Nat) (0 : Int)))).and (BitVec.ofInt IntKind.i32.bits ((IntKind.i32.wrap ((IntKind.i32.wrap (aW.getD (l.getD (0 : Nat) (0 :
 Int)).toNat (0 : Int))).mul (Int.pow (2 : Int) (if (31 : Nat) <= IntKind.i32.bits then (31 : Nat) else IntKind.i32.bits)))).fdiv (Int.pow (2 : Int) (if (31 : Nat) <= IntKind.i32.bits then (31 : Nat) else IntKind.i32.bits)))).not).toNat : Int))).or (BitVec.ofInt IntKind.i32.bits (IntKind.i32.wrap (↑((BitVec.ofInt IntKind.i32.bits (65533 : Int)).and (BitVec.ofInt IntKind.i32.bits ((IntKind.i32.wrap
 ((IntKind.i32.wrap (aW.getD (l.getD (0 : Nat) (0 : Int)).toNat (0 : Int))).mul (Int.pow (2 : Int) (if (31 : Nat) <= IntKind.i32.bits then (31 : Nat) else IntKind.i32.bits)))).fdiv (Int.pow (2 : Int) (if (31 : Nat) <= IntKind.i32.bits then (31 : Nat) else IntKind.i32.bits))))).toNat : Int)))).toNat : Int) = (U.bg l).1 /\ (1 : Int) = (U.bg l).2 /\ True else (0 : Int) <= (4 : Int) /\ (0 :
 Int) <= (aW.getD (l.getD (0 : Nat) (0 : Int)).toNat (0 : Int)).fdiv (Int.pow (2 : Int) (if (4 : Nat) <= IntKind.u8.bits then (4 : Nat) else IntKind.u8.bits)) /\ (aW.getD (l.getD (0 : Nat) (0 : Int)).toNat (0 : Int)).fdiv (Int.pow (2 : Int) (if (4 : Nat) <= IntKind.u8.bits then (4 : Nat) else IntKind.u8.bits)) < (↑(16 : Nat) : Int) /\ bif decide ((↑l.length : Int) < IntKind.i64.wrap
 (IntKind.u8.wrap (↑((BitVec.ofInt IntKind.u8.bits (aW.getD (l.getD (0 : Nat) (0 : Int)).toNat (0 : Int))).and (BitVec.ofInt IntKind.u8.bits (7 : Int))).toNat : Int))) then (65533 : Int) = (U.bg l).1 /\ (1 : Int) = (U.bg l).2 /\ True else (0 : Int) <= (1 : Int) /\ (1 : Int) < (↑l.length : Int) /\ bif bif decide (l.getD (1 : Nat) (0 : Int) < (iR.getD ((aW.getD
 (l.getD (0 : Nat) (0 : Int)).toNat (0 : Int)).fdiv (Int.pow (2 : Int) (if (4 : Nat) <= IntKind.u8.bits then (4 : Nat) else IntKind.u8.bits))).toNat ((0 : Int), (0 : Int))).1) then true else decide ((iR.getD ((aW.getD (l.getD (0 : Nat) (0 : Int)).toNat (0 : Int)).fdiv (Int.pow (2 : Int) (if (4 : Nat) <= IntKind.u8.bits then (4 : Nat) else IntKind.u8.bits))).toNat ((0 : Int), (0
 : Int))).2 < l.getD (1 : Nat) (0 : Int)) then (65533 : Int) = (U.bg l).1 /\ (1 : Int) = (U.bg l).2 /\ True else bif decide (IntKind.i64.wrap (IntKind.u8.wrap (↑((BitVec.ofInt IntKind.u8.bits (aW.getD (l.getD (0 : Nat) (0 : Int)).toNat (0 : Int))).and (BitVec.ofInt IntKind.u8.bits (7 : Int))).toNat : Int)) <= (2 : Int)) then (0 : Int) <= (6 : Int) /\ IntKind.i32.wrap (↑((BitVec.ofInt
 IntKind.i32.bits (IntKind.i32.wrap ((IntKind.i32.wrap (IntKind.u8.wrap (↑((BitVec.ofInt IntKind.u8.bits (l.getD (0 : Nat) (0 : Int))).and (BitVec.ofInt IntKind.u8.bits (31 : Int))).toNat : Int))).mul (Int.pow (2 : Int) (if (6 : Nat) <= IntKind.i32.bits then (6 : Nat) else IntKind.i32.bits))))).or (BitVec.ofInt IntKind.i32.bits (IntKind.i32.wrap (IntKind.u8.wrap (↑((BitVec.ofInt IntKind.u8.bits
 (l.getD (1 : Nat) (0 : Int))).and (BitVec.ofInt IntKind.u8.bits (63 : Int))).toNat : Int))))).toNat : Int) = (U.bg l).1 /\ (2 : Int) = (U.bg l).2 /\ True else (0 : Int) <= (2 : Int) /\ (2 : Int) < (↑l.length : Int) /\ bif bif decide (l.getD (2 : Nat) (0 : Int) < (128 : Int)) then true else decide ((191 : Int) < l.getD (2 : Nat) (0 : Int)) then (65533 : Int) = (U.bg l).1 /\ (1 : Int) =
 (U.bg l).2 /\ True else bif decide (IntKind.i64.wrap (IntKind.u8.wrap (↑((BitVec.ofInt IntKind.u8.bits (aW.getD (l.getD (0 : Nat) (0 : Int)).toNat (0 : Int))).and (BitVec.ofInt IntKind.u8.bits (7 : Int))).toNat : Int)) <= (3 : Int)) then (0 : Int) <= (12 : Int) /\ (0 : Int) <= (6 : Int) /\ IntKind.i32.wrap (↑((BitVec.ofInt IntKind.i32.bits (IntKind.i32.wrap (↑((BitVec.ofInt IntKind.i32.bits
 (IntKind.i32.wrap ((IntKind.i32.wrap (IntKind.u8.wrap (↑((BitVec.ofInt IntKind.u8.bits (l.getD (0 : Nat) (0 : Int))).and (BitVec.ofInt IntKind.u8.bits (15 : Int))).toNat : Int))).mul (Int.pow (2 : Int) (if (12 : Nat) <= IntKind.i32.bits then (12 : Nat) else IntKind.i32.bits))))).or (BitVec.ofInt IntKind.i32.bits (IntKind.i32.wrap ((IntKind.i32.wrap (IntKind.u8.wrap (↑((BitVec.ofInt IntKind.u8.bits
 (l.getD (1 : Nat) (0 : Int))).and (BitVec.ofInt IntKind.u8.bits (63 : Int))).toNat : Int))).mul (Int.pow (2 : Int) (if (6 : Nat) <= IntKind.i32.bits then (6 : Nat) else IntKind.i32.bits)))))).toNat : Int))).or (BitVec.ofInt IntKind.i32.bits (IntKind.i32.wrap (IntKind.u8.wrap (↑((BitVec.ofInt IntKind.u8.bits (l.getD (2 : Nat) (0 : Int))).and (BitVec.ofInt IntKind.u8.bits (63 : Int))).toNat :
 Int))))).toNat : Int) = (U.bg l).1 /\ (3 : Int) = (U.bg l).2 /\ True else (0 : Int) <= (3 : Int) /\ (3 : Int) < (↑l.length : Int) /\ bif bif decide (l.getD (3 : Nat) (0 : Int) < (128 : Int)) then true else decide ((191 : Int) < l.getD (3 : Nat) (0 : Int)) then (65533 : Int) = (U.bg l).1 /\ (1 : Int) = (U.bg l).2 /\ True else (0 : Int) <= (18 : Int) /\ (0 : Int) <= (12 : Int) /\ (0 : Int) <=
 (6 : Int) /\ IntKind.i32.wrap (↑((BitVec.ofInt IntKind.i32.bits (IntKind.i32.wrap (↑((BitVec.ofInt IntKind.i32.bits (IntKind.i32.wrap (↑((BitVec.ofInt IntKind.i32.bits (IntKind.i32.wrap ((IntKind.i32.wrap (IntKind.u8.wrap (↑((BitVec.ofInt IntKind.u8.bits (l.getD (0 : Nat) (0 : Int))).and (BitVec.ofInt IntKind.u8.bits (7 : Int))).toNat : Int))).mul (Int.pow (2 : Int) (if (18 : Nat) <= IntKind.i32.bits
 then (18 : Nat) else IntKind.i32.bits))))).or (BitVec.ofInt IntKind.i32.bits (IntKind.i32.wrap ((IntKind.i32.wrap (IntKind.u8.wrap (↑((BitVec.ofInt IntKind.u8.bits (l.getD (1 : Nat) (0 : Int))).and (BitVec.ofInt IntKind.u8.bits (63 : Int))).toNat : Int))).mul (Int.pow (2 : Int) (if (12 : Nat) <= IntKind.i32.bits then (12 : Nat) else IntKind.i32.bits)))))).toNat : Int))).or (BitVec.ofInt
 IntKind.i32.bits (IntKind.i32.wrap ((IntKind.i32.wrap (IntKind.u8.wrap (↑((BitVec.ofInt IntKind.u8.bits (l.getD (2 : Nat) (0 : Int))).and (BitVec.ofInt IntKind.u8.bits (63 : Int))).toNat : Int))).mul (Int.pow (2 : Int) (if (6 : Nat) <= IntKind.i32.bits then (6 : Nat) else IntKind.i32.bits)))))).toNat : Int))).or (BitVec.ofInt IntKind.i32.bits (IntKind.i32.wrap (IntKind.u8.wrap (↑((BitVec.ofInt
 IntKind.u8.bits (l.getD (3 : Nat) (0 : Int))).and (BitVec.ofInt IntKind.u8.bits (63 : Int))).toNat : Int))))).toNat : Int) = (U.bg l).1 /\ (4 : Int) = (U.bg l).2 /\ True
def dM (l : List Int) : Prop := ((!l.beq []) = true -> (0 : Int) <= (0 : Int)) /\ ((!l.beq []) = true -> (0 : Int) < (↑l.length : Int)) /\ bif bif !l.beq [] then decide (l.getD (0 : Nat) (0 : Int) < (128 : Int)) else false then (0 : Int) <= (0 : Int) /\ (0 : Int) < (↑l.length : Int) /\ IntKind.i32.wrap (l.getD (0 : Nat) (0 : Int)) = (U.bV l).1 /\ (1 : Int) = (U.bV l).2 /\
 True else (U.bg l).1 = (U.bV l).1 /\ (U.bg l).2 = (U.bV l).2 /\ True
def jl (r : Int) : Prop := bif bif decide (r < (0 : Int)) then true else decide (r > (1114111 : Int)) then r = U.bI r /\ True else bif decide (IntKind.i64.wrap r < (128 : Int)) then (0 : Int) <= r /\ r < (↑(128 : Nat) : Int) /\ IntKind.i32.wrap (bQ.getD r.toNat (0 : Int)) = U.bI r /\ True else ∃ (x0 : Int × Int), (U.bP r (0 : Int)
 (↑aC.length : Int) = U.bP r x0.1 x0.2 /\ U.dw r x0.1 x0.2) /\ ∀ (x : Int × Int), U.dw r x.1 x.2 -> bif decide (x.1 < x.2) then (0 : Int) <= (1 : Int) /\ (0 : Int) <= IntKind.i64.wrap ((IntKind.u64.wrap (IntKind.i64.wrap (x.1.add x.2))).fdiv (Int.pow (2 : Int) (if (1 : Nat) <= IntKind.u64.bits then (1 : Nat) else IntKind.u64.bits))) /\
 IntKind.i64.wrap ((IntKind.u64.wrap (IntKind.i64.wrap (x.1.add x.2))).fdiv (Int.pow (2 : Int) (if (1 : Nat) <= IntKind.u64.bits then (1 : Nat) else IntKind.u64.bits))) < (↑aC.length : Int) /\ bif decide (IntKind.i32.wrap (aC.getD (IntKind.i64.wrap ((IntKind.u64.wrap (IntKind.i64.wrap (x.1.add x.2))).fdiv (Int.pow (2 : Int) (if (1 : Nat) <= IntKind.u64.bits then (1 : Nat)
 else IntKind.u64.bits)))).toNat ((0 : Int), (0 : Int))).1 < r) then ∃ (y : Int × Int), U.bP r (IntKind.i64.wrap ((IntKind.i64.wrap ((IntKind.u64.wrap (IntKind.i64.wrap (x.1.add x.2))).fdiv (Int.pow (2 : Int) (if (1 : Nat) <= IntKind.u64.bits then (1 : Nat) else IntKind.u64.bits)))).add (1 : Int))) x.2 = U.bP r y.1 y.2 /\ U.dw r y.1 y.2 /\
 (y.2.sub y.1).toNat < (x.2.sub x.1).toNat else ∃ (y : Int × Int), U.bP r x.1 (IntKind.i64.wrap ((IntKind.u64.wrap (IntKind.i64.wrap (x.1.add x.2))).fdiv (Int.pow (2 : Int) (if (1 : Nat) <= IntKind.u64.bits then (1 : Nat) else IntKind.u64.bits)))) = U.bP r y.1 y.2 /\ U.dw r y.1 y.2 /\ (y.2.sub y.1).toNat < (x.2.sub x.1).toNat else (decide (x.1
 < (↑aC.length : Int)) = true -> (0 : Int) <= x.1) /\ (decide (x.1 < (↑aC.length : Int)) = true -> x.1 < (↑aC.length : Int)) /\ bif bif decide (x.1 < (↑aC.length : Int)) then decide (IntKind.i32.wrap (aC.getD x.1.toNat ((0 : Int), (0 : Int))).1 = r) else false then (0 : Int) <= x.1 /\ x.1 < (↑aC.length : Int) /\
 IntKind.i32.wrap (aC.getD x.1.toNat ((0 : Int), (0 : Int))).2 = U.bI r /\ True else False
def jA (s : List Int) (t : List Int) : Prop := ∃ (x0 : Int), ((⟨⟨[U.sS s] ++ [U.sS t] ++ U.n 3 ++ [U.sI (0 : Int)] ++ [U.sI (Fg (↑s.length : Int) (↑t.length : Int))] ++ U.n 116, [], []⟩, (0 : Nat), []⟩ : St2) = U.aV s t x0 /\ U.bZ s t x0) /\ ∀ (x : Int), U.bZ s t x -> bif decide (x < (↑s.length : Int)) then (0 : Int) <= x /\ x <
 (↑s.length : Int) /\ (0 : Int) <= x /\ x < (↑t.length : Int) /\ bif decide (IntKind.u8.wrap (↑((BitVec.ofInt IntKind.u8.bits (s.getD x.toNat (0 : Int))).or (BitVec.ofInt IntKind.u8.bits (t.getD x.toNat (0 : Int)))).toNat : Int) >= (128 : Int)) then (0 : Int) <= x /\ x <= (↑s.length : Int) /\ (↑s.length : Int) <= (↑s.length : Int) /\ (0 : Int) <= x /\ x <= (↑t.length : Int) /\ (↑t.length : Int) <= (↑t.length : Int)
 /\ ∃ (x0 : List Int × Nat × List Int), (U.aJ (List.take ((↑s.length : Int).toNat.sub x.toNat) (List.drop x.toNat s)) (0 : Nat) (List.take ((↑t.length : Int).toNat.sub x.toNat) (List.drop x.toNat t)) = U.aJ x0.1 x0.2.1 x0.2.2 /\ U.bn x0.1 x0.2.1 x0.2.2 x0.1 x0.2.1 x0.2.2) /\ ∀ (x : List Int × Nat × List Int), U.bn x0.1 x0.2.1
 x0.2.2 x.1 x.2.1 x.2.2 -> (x.2.1 < x.1.length -> bif decide ((↑x.2.2.length : Int) = (0 : Int)) then false = decide (List.map aO s = List.map aO t) /\ True else (0 : Int) <= (U.bV x.2.2).2 /\ (U.bV x.2.2).2 <= (↑x.2.2.length : Int) /\ (↑x.2.2.length : Int) <= (↑x.2.2.length : Int) /\ bif decide ((U.bV x.2.2).1 = (bJ x.1 x.2.1).1) then ∃ (y : List Int × Nat × List Int), U.aJ
 x.1 (x.2.1.add (bJ x.1 x.2.1).2) (List.take ((↑x.2.2.length : Int).toNat.sub (U.bV x.2.2).2.toNat) (List.drop (U.bV x.2.2).2.toNat x.2.2)) = U.aJ y.1 y.2.1 y.2.2 /\ U.bn x0.1 x0.2.1 x0.2.2 y.1 y.2.1 y.2.2 /\ y.1.length.sub y.2.1 < x.1.length.sub x.2.1 else bif decide ((U.bV x.2.2).1 < (bJ x.1 x.2.1).1) then bif decide ((bJ x.1 x.2.1).1 < (128 :
 Int)) then bif bif bif decide ((65 : Int) <= (U.bV x.2.2).1) then decide ((U.bV x.2.2).1 <= (90 : Int)) else false then decide ((bJ x.1 x.2.1).1 = IntKind.i32.wrap ((IntKind.i32.wrap ((U.bV x.2.2).1.add (97 : Int))).sub (65 : Int))) else false then ∃ (y : List Int × Nat × List Int), U.aJ x.1 (x.2.1.add (bJ x.1 x.2.1).2) (List.take ((↑x.2.2.length : Int).toNat.sub
 (U.bV x.2.2).2.toNat) (List.drop (U.bV x.2.2).2.toNat x.2.2)) = U.aJ y.1 y.2.1 y.2.2 /\ U.bn x0.1 x0.2.1 x0.2.2 y.1 y.2.1 y.2.2 /\ y.1.length.sub y.2.1 < x.1.length.sub x.2.1 else false = decide (List.map aO s = List.map aO t) /\ True else U.jk (U.bV x.2.2).1 /\ ∃ (aU : List Int × Nat × List Int × Int × Int × Int), (U.bf x.1
 (x.2.1.add (bJ x.1 x.2.1).2) (List.take ((↑x.2.2.length : Int).toNat.sub (U.bV x.2.2).2.toNat) (List.drop (U.bV x.2.2).2.toNat x.2.2)) (U.bV x.2.2).1 (bJ x.1 x.2.1).1 (U.bI (U.bV x.2.2).1) = U.bf aU.1 aU.2.1 aU.2.2.1 aU.2.2.2.1 aU.2.2.2.2.1 aU.2.2.2.2.2 /\ U.bT aU.1 aU.2.1 aU.2.2.1 aU.2.2.2.1 aU.2.2.2.2.1 aU.2.2.2.2.2
 aU.1 aU.2.1 aU.2.2.1 aU.2.2.2.1 aU.2.2.2.2.1 aU.2.2.2.2.2) /\ ∀ (x_1 : List Int × Nat × List Int × Int × Int × Int), U.bT aU.1 aU.2.1 aU.2.2.1 aU.2.2.2.1 aU.2.2.2.2.1 aU.2.2.2.2.2 x_1.1 x_1.2.1 x_1.2.2.1 x_1.2.2.2.1 x_1.2.2.2.2.1 x_1.2.2.2.2.2 -> bif bif x_1.2.2.2.2.2 != x_1.2.2.2.1 then decide (x_1.2.2.2.2.2 < x_1.2.2.2.2.1) else false then U.jk
 x_1.2.2.2.2.2 /\ ∃ (y : List Int × Nat × List Int × Int × Int × Int), U.bf x_1.1 x_1.2.1 x_1.2.2.1 x_1.2.2.2.1 x_1.2.2.2.2.1 (U.bI x_1.2.2.2.2.2) = U.bf y.1 y.2.1 y.2.2.1 y.2.2.2.1 y.2.2.2.2.1 y.2.2.2.2.2 /\ U.bT aU.1 aU.2.1 aU.2.2.1 aU.2.2.2.1 aU.2.2.2.2.1 aU.2.2.2.2.2 y.1 y.2.1 y.2.2.1 y.2.2.2.1 y.2.2.2.2.1 y.2.2.2.2.2 /\ (bif
 decide (y.2.2.2.2.2 = y.2.2.2.1) then (0 : Nat) else bif decide (U.bI y.2.2.2.2.2 = y.2.2.2.1) then (1 : Nat) else (2 : Nat)) < bif decide (x_1.2.2.2.2.2 = x_1.2.2.2.1) then (0 : Nat) else bif decide (U.bI x_1.2.2.2.2.2 = x_1.2.2.2.1) then (1 : Nat) else (2 : Nat) else bif decide (x_1.2.2.2.2.2 = x_1.2.2.2.2.1) then ∃ (y : List Int × Nat × List Int), U.aJ x_1.1 x_1.2.1
 x_1.2.2.1 = U.aJ y.1 y.2.1 y.2.2 /\ U.bn x0.1 x0.2.1 x0.2.2 y.1 y.2.1 y.2.2 /\ y.1.length.sub y.2.1 < x.1.length.sub x.2.1 else false = decide (List.map aO s = List.map aO t) /\ True else bif decide ((U.bV x.2.2).1 < (128 : Int)) then bif bif bif decide ((65 : Int) <= (bJ x.1 x.2.1).1) then decide ((bJ x.1 x.2.1).1 <= (90 : Int)) else false then
 decide ((U.bV x.2.2).1 = IntKind.i32.wrap ((IntKind.i32.wrap ((bJ x.1 x.2.1).1.add (97 : Int))).sub (65 : Int))) else false then ∃ (y : List Int × Nat × List Int), U.aJ x.1 (x.2.1.add (bJ x.1 x.2.1).2) (List.take ((↑x.2.2.length : Int).toNat.sub (U.bV x.2.2).2.toNat) (List.drop (U.bV x.2.2).2.toNat x.2.2)) = U.aJ y.1 y.2.1 y.2.2 /\
 U.bn x0.1 x0.2.1 x0.2.2 y.1 y.2.1 y.2.2 /\ y.1.length.sub y.2.1 < x.1.length.sub x.2.1 else false = decide (List.map aO s = List.map aO t) /\ True else U.jk (bJ x.1 x.2.1).1 /\ ∃ (aU : List Int × Nat × List Int × Int × Int × Int), (U.bf x.1 (x.2.1.add (bJ x.1 x.2.1).2) (List.take ((↑x.2.2.length : Int).toNat.sub (U.bV x.2.2).2.toNat) (List.drop
 (U.bV x.2.2).2.toNat x.2.2)) (bJ x.1 x.2.1).1 (U.bV x.2.2).1 (U.bI (bJ x.1 x.2.1).1) = U.bf aU.1 aU.2.1 aU.2.2.1 aU.2.2.2.1 aU.2.2.2.2.1 aU.2.2.2.2.2 /\ U.bT aU.1 aU.2.1 aU.2.2.1 aU.2.2.2.1 aU.2.2.2.2.1 aU.2.2.2.2.2 aU.1 aU.2.1 aU.2.2.1 aU.2.2.2.1 aU.2.2.2.2.1 aU.2.2.2.2.2) /\ ∀ (x_1 : List Int × Nat × List Int
 × Int × Int × Int), U.bT aU.1 aU.2.1 aU.2.2.1 aU.2.2.2.1 aU.2.2.2.2.1 aU.2.2.2.2.2 x_1.1 x_1.2.1 x_1.2.2.1 x_1.2.2.2.1 x_1.2.2.2.2.1 x_1.2.2.2.2.2 -> bif bif x_1.2.2.2.2.2 != x_1.2.2.2.1 then decide (x_1.2.2.2.2.2 < x_1.2.2.2.2.1) else false then U.jk x_1.2.2.2.2.2 /\ ∃ (y : List Int × Nat × List Int × Int × Int × Int), U.bf x_1.1 x_1.2.1
 x_1.2.2.1 x_1.2.2.2.1 x_1.2.2.2.2.1 (U.bI x_1.2.2.2.2.2) = U.bf y.1 y.2.1 y.2.2.1 y.2.2.2.1 y.2.2.2.2.1 y.2.2.2.2.2 /\ U.bT aU.1 aU.2.1 aU.2.2.1 aU.2.2.2.1 aU.2.2.2.2.1 aU.2.2.2.2.2 y.1 y.2.1 y.2.2.1 y.2.2.2.1 y.2.2.2.2.1 y.2.2.2.2.2 /\ (bif decide (y.2.2.2.2.2 = y.2.2.2.1) then (0 : Nat) else bif decide (U.bI y.2.2.2.2.2 = y.2.2.2.1) then (1 :
 Nat) else (2 : Nat)) < bif decide (x_1.2.2.2.2.2 = x_1.2.2.2.1) then (0 : Nat) else bif decide (U.bI x_1.2.2.2.2.2 = x_1.2.2.2.1) then (1 : Nat) else (2 : Nat) else bif decide (x_1.2.2.2.2.2 = x_1.2.2.2.2.1) then ∃ (y : List Int × Nat × List Int), U.aJ x_1.1 x_1.2.1 x_1.2.2.1 = U.aJ y.1 y.2.1 y.2.2 /\ U.bn x0.1 x0.2.1 x0.2.2 y.1 y.2.1
 y.2.2 /\ y.1.length.sub y.2.1 < x.1.length.sub x.2.1 else false = decide (List.map aO s = List.map aO t) /\ True) /\ (x.1.length <= x.2.1 -> decide ((↑x.2.2.length : Int) = (0 : Int)) = decide (List.map aO s = List.map aO t) /\ True) else bif decide (t.getD x.toNat (0 : Int) = s.getD x.toNat (0 : Int)) then ∃ (y : Int), U.aV s t (IntKind.i64.wrap (x.add (1 : Int))) =
 U.aV s t y /\ U.bZ s t y /\ s.length.sub y.toNat < s.length.sub x.toNat else bif decide (t.getD x.toNat (0 : Int) < s.getD x.toNat (0 : Int)) then bif bif bif decide ((65 : Int) <= t.getD x.toNat (0 : Int)) then decide (t.getD x.toNat (0 : Int) <= (90 : Int)) else false then decide (s.getD x.toNat (0 : Int) = IntKind.u8.wrap ((IntKind.u8.wrap ((t.getD x.toNat (0 :
 Int)).add (97 : Int))).sub (65 : Int))) else false then ∃ (y : Int), U.aV s t (IntKind.i64.wrap (x.add (1 : Int))) = U.aV s t y /\ U.bZ s t y /\ s.length.sub y.toNat < s.length.sub x.toNat else false = decide (List.map aO s = List.map aO t) /\ True else bif bif bif decide ((65 : Int) <= s.getD x.toNat (0 : Int)) then decide (s.getD x.toNat (0
 : Int) <= (90 : Int)) else false then decide (t.getD x.toNat (0 : Int) = IntKind.u8.wrap ((IntKind.u8.wrap ((s.getD x.toNat (0 : Int)).add (97 : Int))).sub (65 : Int))) else false then ∃ (y : Int), U.aV s t (IntKind.i64.wrap (x.add (1 : Int))) = U.aV s t y /\ U.bZ s t y /\ s.length.sub y.toNat < s.length.sub x.toNat else false = decide (List.map
 aO s = List.map aO t) /\ True else decide ((↑s.length : Int) = (↑t.length : Int)) = decide (List.map aO s = List.map aO t) /\ True
end Go.Proofs.YtdobgidhhpdihaaDoor
set_option linter.unusedSimpArgs false
set_option linter.unusedVariables false
set_option maxRecDepth 100000
namespace Go.Proofs.YtdobgidhhpdihaaDoor
open Go.Vc
open Go.Vc.T
theorem zf {a b : Int} (h1 : -9223372036854775808 <= a + b) (h2 : a + b <= 9223372036854775807) : IntKind.i64.wrap (a.add b) = a + b := oL h1 h2
theorem MQ (l : List Int) (p : Nat) (hp : p < l.length) (hb : ∀ x ∈ l, Byte x) (ha : yw l) : bJ l p = (l[p], 1) := by
 have hm := List.getElem_mem hp
 have h0 := hb _ hm
 have h1 := ha _ hm
 have hsz : p < (bs l).size := by rw [gy]; exact hp
 have hg : ((bs l)[p]'hsz).toNat = l[p].toNat := by
  have e : (bs l)[p]'hsz = UInt8.ofNat l[p].toNat := by simp [bs, ByteArray.getElem_eq_getElem_data]
  rw [e, UInt8.toNat_ofNat']; have := h0.1; have := h0.2; omega
 have := Go.decode_ascii (bs l) p hsz (by rw [hg]; have := h0.1; omega)
 unfold bJ
 rw [this, hg]
 have := h0.1
 show ((l[p].toNat : Int), 1) = _
 rw [show ((l[p].toNat : Nat) : Int) = l[p] by omega]
theorem LD : ∀ k : Fin 256, (0 <= aW.getD k.val 0 /\ aW.getD k.val 0 <= 255) /\ (aW.getD k.val 0 >= 240 -> T.orK .i32 (T.qg .i32 (IntKind.i32.wrap (k.val : Int)) ((IntKind.i32.wrap (IntKind.i32.wrap (aW.getD k.val 0) * 2147483648)).fdiv 2147483648)) (T.jy .i32 65533 ((IntKind.i32.wrap (IntKind.i32.wrap (aW.getD k.val 0) * 2147483648)).fdiv 2147483648)) = cond (decide ((k.val : Int) < 128)) (k.val : Int) 65533) /\
 (aW.getD k.val 0 < 240 -> 2 <= IntKind.i64.wrap (T.jy .u8 (aW.getD k.val 0) 7) /\ IntKind.i64.wrap (T.jy .u8 (aW.getD k.val 0) 7) <= 4) /\ (0 <= (aW.getD k.val 0).fdiv 16 /\ (aW.getD k.val 0).fdiv 16 < 16) := by decide +kernel
theorem Aq {l : List Int} (hv : Valid .str l) (h : l ≠ []) : (0 <= U.s0 l /\ U.s0 l <= 255) /\ (U.f8 l >= 240 -> T.orK .i32 (T.qg .i32 (IntKind.i32.wrap (U.s0 l)) ((IntKind.i32.wrap (IntKind.i32.wrap (U.f8 l) * 2147483648)).fdiv 2147483648)) (T.jy .i32 65533 ((IntKind.i32.wrap (IntKind.i32.wrap (U.f8 l) * 2147483648)).fdiv 2147483648)) = U.CO l) /\
 (U.f8 l < 240 -> 2 <= U.szN l /\ U.szN l <= 4) /\ (0 <= (U.f8 l).fdiv 16 /\ (U.f8 l).fdiv 16 < 16) := by
 match l, h with
 | x :: r, _ =>
   have hb := hv.1 x (by simp)
   have hk := LD ⟨x.toNat, by have := hb.1; have := hb.2; omega⟩
   have e : ((x.toNat : Nat) : Int) = x := by have := hb.1; omega
   have hk := hk
   simp only [e] at hk
   exact ⟨hb, hk.2.1, hk.2.2.1, hk.2.2.2⟩
theorem p31 : Int.pow 2 (if (31 : Nat) <= IntKind.i32.bits then (31 : Nat) else IntKind.i32.bits) = 2147483648 := by decide
theorem p18 : Int.pow 2 (if (18 : Nat) <= IntKind.i32.bits then (18 : Nat) else IntKind.i32.bits) = 262144 := by decide
theorem p12 : Int.pow 2 (if (12 : Nat) <= IntKind.i32.bits then (12 : Nat) else IntKind.i32.bits) = 4096 := by decide
theorem p6 : Int.pow 2 (if (6 : Nat) <= IntKind.i32.bits then (6 : Nat) else IntKind.i32.bits) = 64 := by decide
theorem p4 : Int.pow 2 (if (4 : Nat) <= IntKind.u8.bits then (4 : Nat) else IntKind.u8.bits) = 16 := by decide
theorem p1 : Int.pow 2 (if (1 : Nat) <= IntKind.u64.bits then (1 : Nat) else IntKind.u64.bits) = 2 := by decide
theorem jG (l : List Int) (hv : Valid .str l) : dn l := by
 unfold dn
 simp only [G9, Jl, CJ, p31, p18, p12, p6, p4, NU, uz]
 by_cases h0 : l = []
 ·subst h0; exact ⟨rfl, rfl, trivial⟩
 have hl : 0 < l.length := List.length_pos_iff.2 h0
 obtain ⟨hs, hm, hz, ha⟩ := Aq hv h0
 have e0 : decide (((l.length : Nat) : Int) < 1) = false := decide_eq_false (by omega)
 rw [e0, cond_false]
 refine ⟨Int.le_refl 0, by omega, hs.1, by have := hs.2; show U.s0 l < 256; omega, ?_⟩
 have hd : U.bg l = cond (decide (U.f8 l >= 240)) (U.CO l, 1) (cond (decide ((l.length : Int) < U.szN l)) (65533, 1)
  (cond (decide (l.getD 1 0 < (U.acc l).1) || decide ((U.acc l).2 < l.getD 1 0)) (65533, 1) (cond (decide (U.szN l <= 2)) (U.r2 l, 2)
  (cond (decide (l.getD 2 0 < 128) || decide (191 < l.getD 2 0)) (65533, 1) (cond (decide (U.szN l <= 3)) (U.r3 l, 3)
  (cond (decide (l.getD 3 0 < 128) || decide (191 < l.getD 3 0)) (65533, 1) (U.r4 l, 4))))))) := by
  unfold U.bg; rw [decide_eq_false h0, cond_false]
 rw [hd]
 show bif decide (U.f8 l >= 240) then _ else _
 by_cases h1 : U.f8 l >= 240
 ·rw [decide_eq_true h1, cond_true]
  exact ⟨by omega, by omega, by omega, by omega, hm h1, rfl, trivial⟩
 rw [decide_eq_false h1, cond_false, cond_false]
 obtain ⟨z1, z2⟩ := hz (by omega)
 refine ⟨by omega, ha.1, ha.2, ?_⟩
 show bif decide ((l.length : Int) < U.szN l) then _ else _
 by_cases h2 : (l.length : Int) < U.szN l
 ·rw [decide_eq_true h2, cond_true]; exact ⟨rfl, rfl, trivial⟩
 rw [decide_eq_false h2, cond_false, cond_false]
 refine ⟨by omega, by omega, ?_⟩
 show bif (decide (l.getD 1 0 < (U.acc l).1) || decide ((U.acc l).2 < l.getD 1 0)) then _ else _
 cases h3 : (decide (l.getD 1 0 < (U.acc l).1) || decide ((U.acc l).2 < l.getD 1 0)) with
 | true => exact ⟨rfl, rfl, trivial⟩
 | false =>
   rw [cond_false, cond_false]
   show bif decide (U.szN l <= 2) then _ else _
   by_cases h4 : U.szN l <= 2
   ·rw [decide_eq_true h4]; exact ⟨by omega, rfl, rfl, trivial⟩
   rw [decide_eq_false h4, cond_false, cond_false]
   refine ⟨by omega, by omega, ?_⟩
   cases h5 : (decide (l.getD 2 0 < 128) || decide (191 < l.getD 2 0)) with
   | true => exact ⟨rfl, rfl, trivial⟩
   | false =>
     rw [cond_false, cond_false]
     show bif decide (U.szN l <= 3) then _ else _
     by_cases h6 : U.szN l <= 3
     ·rw [decide_eq_true h6]; exact ⟨by omega, by omega, rfl, rfl, trivial⟩
     rw [decide_eq_false h6, cond_false, cond_false]
     refine ⟨by omega, by omega, ?_⟩
     cases h7 : (decide (l.getD 3 0 < 128) || decide (191 < l.getD 3 0)) with
     | true => exact ⟨rfl, rfl, trivial⟩
     | false => exact ⟨by omega, by omega, by omega, rfl, rfl, trivial⟩
theorem kQ (l : List Int) (hv : Valid .str l) : dM l := by
 unfold dM
 simp only [qV]
 by_cases h0 : l = []
 ·subst h0
  exact ⟨fun h => (by cases h), fun h => (by cases h), rfl, rfl, trivial⟩
 have hl : 0 < l.length := List.length_pos_iff.2 h0
 have e : (!l.beq []) = true := by
  cases l with
  | nil => exact absurd rfl h0
  | cons x r => rfl
 obtain ⟨hs, _⟩ := Aq hv h0
 unfold U.bV
 rw [e, decide_eq_false h0]
 refine ⟨fun _ => Int.le_refl 0, fun _ => by omega, ?_⟩
 show bif (true && decide (U.s0 l < 128)) then _ else _
 by_cases h1 : U.s0 l < 128
 ·rw [decide_eq_true h1]
  refine ⟨Int.le_refl 0, by omega, ?_, rfl, trivial⟩
  have : IntKind.i32.wrap (U.s0 l) = U.s0 l := by rw [wrap_i32]; omega
  exact this
 ·rw [decide_eq_false h1]; exact ⟨rfl, rfl, trivial⟩
theorem LG : aC.length = 94 := by decide +kernel
theorem LH : (∀ m : Fin 94, ((IntKind.i32.wrap (aC.getD m.val (0, 0)).1 < 383) ↔ m.val < 10) /\ ((IntKind.i32.wrap (aC.getD m.val (0, 0)).1 < 8490) ↔ m.val < 88)) /\ IntKind.i32.wrap (aC.getD 10 (0, 0)).1 = 383 /\ IntKind.i32.wrap (aC.getD 10 (0, 0)).2 = 83 /\ IntKind.i32.wrap (aC.getD 88 (0, 0)).1 = 8490 /\ IntKind.i32.wrap (aC.getD 88 (0, 0)).2 = 75 := by decide +kernel
theorem Ar : ∀ c : Fin 128, IntKind.i32.wrap (bQ.getD c.val 0) = bQ.getD c.val 0 /\ ((0 <= bQ.getD c.val 0 /\ bQ.getD c.val 0 < 128) ∨ bQ.getD c.val 0 = 383 ∨ bQ.getD c.val 0 = 8490) /\
 (U.bI (c.val : Int) = c.val ∨ U.bI (U.bI (c.val : Int)) = c.val ∨ U.bI (U.bI (U.bI (c.val : Int))) = c.val) := by decide +kernel
theorem vW (r : Int) (h : U.jk r) : jl r := by
 unfold jl U.dw
 have hr : 0 <= r /\ r <= 8490 := by unfold U.jk at h; omega
 simp only [uz, qV, p1, LG]
 have e1 : (decide (r < 0) || decide (r > 1114111)) = false := by rw [decide_eq_false (by omega), decide_eq_false (by omega)]; rfl
 rw [e1, cond_false, oL (x := r) (by omega) (by omega)]
 by_cases h1 : r < 128
 ·rw [decide_eq_true h1, cond_true]
  have hk := (Ar ⟨r.toNat, by omega⟩).1
  refine ⟨hr.1, h1, ?_, trivial⟩
  unfold U.bI
  rw [decide_eq_true h1, cond_true]; exact hk
 rw [decide_eq_false h1, cond_false]
 have hp : U.DK r = (if r = 383 then 10 else 88) /\ (r = 383 ∨ r = 8490) := by
  unfold U.jk at h; unfold U.DK
  rcases h with h | h | h
  ·omega
  ·subst h; exact ⟨rfl, .inl rfl⟩
  ·subst h; exact ⟨rfl, .inr rfl⟩
 obtain ⟨hp, hr2⟩ := hp
 obtain ⟨k1, k2, k3, k4, k5⟩ := LH
 have hlt : ∀ m : Nat, m < 94 -> (IntKind.i32.wrap (aC.getD m (0, 0)).1 < r ↔ (m : Int) < U.DK r) := by
  intro m hm
  have := k1 ⟨m, hm⟩
  rw [hp]
  rcases hr2 with rfl | rfl
  ·rw [if_pos rfl]; have := this.1; dsimp only at this; omega
  ·rw [if_neg (by decide)]; have := this.2; dsimp only at this; omega
 refine ⟨(0, 94), ⟨rfl, by dsimp only; omega, by dsimp only; omega, by dsimp only; omega, by dsimp only; rw [hp]; split <;> omega, by dsimp only; rw [hp]; split <;> omega⟩, ?_⟩
 rintro ⟨lo, hi⟩ ⟨i1, i2, i3, i4, i5⟩
 dsimp only at i1 i2 i3 i4 i5 ⊢
 rw [cond_prop]
 refine ⟨fun hc => ?_, fun hc => ?_⟩
 ·have hc : lo < hi := of_decide_eq_true hc
  have hm : IntKind.i64.wrap ((IntKind.u64.wrap (IntKind.i64.wrap (lo + hi))).fdiv 2) = (lo + hi) / 2 := by
   rw [oL (x := lo + hi) (by omega) (by omega), wrap_u64, Int.emod_eq_of_lt (by omega) (by omega), Int.fdiv_eq_ediv_of_nonneg _ (by omega), oL (by omega) (by omega)]
  simp only [Jk, DI]
  simp only [hm]
  have hm2 := hlt ((lo + hi) / 2).toNat (by omega)
  rw [show ((((lo + hi) / 2).toNat : Nat) : Int) = (lo + hi) / 2 by omega] at hm2
  refine ⟨by omega, by omega, by omega, ?_⟩
  rw [cond_prop]
  refine ⟨fun hd => ?_, fun hd => ?_⟩
  ·have hd := hm2.1 (of_decide_eq_true hd)
   rw [oL (by omega) (by omega)]
   exact ⟨((lo + hi) / 2 + 1, hi), rfl, ⟨by dsimp only; omega, by dsimp only; omega, by dsimp only; omega, by dsimp only; omega, by dsimp only; omega⟩, by dsimp only; omega⟩
  ·have hd := mt hm2.2 (of_decide_eq_false hd)
   exact ⟨(lo, (lo + hi) / 2), rfl, ⟨by dsimp only; omega, by dsimp only; omega, by dsimp only; omega, by dsimp only; omega, by dsimp only; omega⟩, by dsimp only; omega⟩
 ·have hc : ¬ lo < hi := of_decide_eq_false hc
  have hlo : lo = U.DK r := by omega
  have hlo2 : lo < 94 := by rw [hlo, hp]; split <;> omega
  have e2 : decide (lo < ((94 : Nat) : Int)) = true := decide_eq_true (by omega)
  refine ⟨fun _ => i1, fun _ => hlo2, ?_⟩
  rw [e2, Bool.true_and]
  rw [hlo, hp]
  rcases hr2 with rfl | rfl
  ·rw [if_pos rfl]
   show bif decide (IntKind.i32.wrap (aC.getD 10 (0, 0)).1 = 383) then _ else _
   rw [k2]
   exact ⟨by omega, by omega, k3, trivial⟩
  ·rw [if_neg (by decide)]
   show bif decide (IntKind.i32.wrap (aC.getD 88 (0, 0)).1 = 8490) then _ else _
   rw [k4]
   exact ⟨by omega, by omega, k5, trivial⟩
theorem OQ : ∀ a : Fin 128, ∀ b : Fin 256, (T.orK .u8 (a.val : Int) (b.val : Int) >= 128 ↔ b.val >= 128) := by decide +kernel
theorem Hg {q : Int} (h : U.jk q) : U.jk (U.bI q) := by
 rcases h with h | h | h
 ·have := (Ar ⟨q.toNat, by omega⟩).2.1
  unfold U.jk U.bI
  rw [decide_eq_true h.2, cond_true]; exact this
 ·subst h; exact .inl (by decide)
 ·subst h; exact .inl (by decide)
theorem MR {c : Int} (h : 0 <= c /\ c < 128) : U.bI c = c ∨ U.bI (U.bI c) = c ∨ U.bI (U.bI (U.bI c)) = c := by
 have := (Ar ⟨c.toNat, by omega⟩).2.2
 rw [show (((⟨c.toNat, by omega⟩ : Fin 128).val : Nat) : Int) = c by show ((c.toNat : Nat) : Int) = c; omega] at this
 exact this
theorem KD {T : List Int} (hv : Valid .str T) (h0 : T ≠ []) : 1 <= (U.bV T).2 /\ (U.bV T).2 <= T.length /\ ((U.bV T).2 = 1 -> 128 <= U.s0 T -> (U.bV T).1 = 65533) := by
 have hl : 0 < T.length := List.length_pos_iff.2 h0
 obtain ⟨hs, hm, hz, ha⟩ := Aq hv h0
 unfold U.bV
 rw [decide_eq_false h0]
 by_cases h1 : U.s0 T < 128
 ·rw [decide_eq_true h1]
  refine ⟨Int.le_refl 1, by show (1 : Int) <= _; omega, fun _ h => by omega⟩
 rw [decide_eq_false h1]
 show 1 <= (U.bg T).2 /\ (U.bg T).2 <= T.length /\ ((U.bg T).2 = 1 -> 128 <= U.s0 T -> (U.bg T).1 = 65533)
 unfold U.bg
 rw [decide_eq_false h0, cond_false]
 by_cases h2 : U.f8 T >= 240
 ·rw [decide_eq_true h2, cond_true]
  refine ⟨Int.le_refl 1, by show (1 : Int) <= _; omega, fun _ _ => ?_⟩
  show U.CO T = 65533
  unfold U.CO; rw [decide_eq_false h1]; rfl
 rw [decide_eq_false h2, cond_false]
 obtain ⟨z1, z2⟩ := hz (by omega)
 have one : ∀ x : Int × Int, x = (65533, 1) -> 1 <= x.2 /\ x.2 <= (T.length : Int) /\ (x.2 = 1 -> 128 <= U.s0 T -> x.1 = 65533) := fun x hx => by subst hx; exact ⟨Int.le_refl 1, by show (1 : Int) <= _; omega, fun _ _ => rfl⟩
 have more : ∀ (r k : Int), 2 <= k -> k <= T.length -> 1 <= ((r, k) : Int × Int).2 /\ ((r, k) : Int × Int).2 <= (T.length : Int) /\ (((r, k) : Int × Int).2 = 1 -> 128 <= U.s0 T -> ((r, k) : Int × Int).1 = 65533) := fun r k h1 h2 => ⟨by show (1 : Int) <= k; omega, h2, fun h _ => by have h : k = 1 := h; omega⟩
 by_cases h3 : (T.length : Int) < U.szN T
 ·rw [decide_eq_true h3, cond_true]; exact one _ rfl
 rw [decide_eq_false h3, cond_false]
 cases (decide (T.getD 1 0 < (U.acc T).1) || decide ((U.acc T).2 < T.getD 1 0)) with
 | true => exact one _ rfl
 | false =>
   rw [cond_false]
   by_cases h4 : U.szN T <= 2
   ·rw [decide_eq_true h4, cond_true]; exact more _ 2 (by omega) (by omega)
   rw [decide_eq_false h4, cond_false]
   cases (decide (T.getD 2 0 < 128) || decide (191 < T.getD 2 0)) with
   | true => exact one _ rfl
   | false =>
     rw [cond_false]
     by_cases h5 : U.szN T <= 3
     ·rw [decide_eq_true h5, cond_true]; exact more _ 3 (by omega) (by omega)
     rw [decide_eq_false h5, cond_false]
     cases (decide (T.getD 3 0 < 128) || decide (191 < T.getD 3 0)) with
     | true => exact one _ rfl
     | false => exact more _ 4 (by omega) (by omega)
theorem OT {s t : List Int} {i : Nat} (hs : i < s.length) (ht : i < t.length) (h : aO s[i] ≠ aO t[i]) : decide (s.map aO = t.map aO) = false := by
 rw [decide_eq_false_iff_not]
 intro e
 have := congrArg (fun l => l[i]?) e
 simp only [List.getElem?_map, List.getElem?_eq_getElem hs, List.getElem?_eq_getElem ht, Option.map_some, Option.some.injEq] at this
 exact h this
theorem MS {s t : List Int} {i : Int} (i0 : 0 <= i) (hs : i < s.length) (ht : i < t.length) (h : (s.take i.toNat).map aO = (t.take i.toNat).map aO) (hx : aO (s[i.toNat]'(by omega)) = aO (t[i.toNat]'(by omega))) : (s.take (i + 1).toNat).map aO = (t.take (i + 1).toNat).map aO := by
 rw [take_at i0 hs, take_at i0 ht, List.map_append, List.map_append, h, List.map_singleton, List.map_singleton, hx]
theorem wE (s t : List Int) (hs : Valid .str s) (ht : Valid .str t) (hp : yw s /\ s.length = t.length /\ s.length <= 1000) : jA s t := by
 obtain ⟨hasc, hlen, hle⟩ := hp
 unfold jA
 simp only [uz, qV, G9]
 have hmin : Fg (s.length : Int) (t.length : Int) = s.length := by rw [NY, hlen]; omega
 refine ⟨0, ⟨by rw [hmin]; rfl, ⟨Int.le_refl 0, by omega⟩, hlen, rfl⟩, ?_⟩
 rintro i ⟨⟨i0, i1⟩, _, hI⟩
 rw [cond_prop]
 refine ⟨fun hi => ?_, fun hi => ?_⟩
 ·have hi : i < s.length := of_decide_eq_true hi
  have hit : i < t.length := by omega
  rw [getD_at (by omega : i.toNat < s.length), getD_at (by omega : i.toNat < t.length)]
  have hx := hs.1 _ (List.getElem_mem (show i.toNat < s.length by omega))
  have hxa := hasc _ (List.getElem_mem (show i.toNat < s.length by omega))
  have hy := ht.1 _ (List.getElem_mem (show i.toNat < t.length by omega))
  have hok := OQ ⟨(s[i.toNat]'(by omega)).toNat, by have := hx.1; omega⟩ ⟨(t[i.toNat]'(by omega)).toNat, by have := hy.1; have := hy.2; omega⟩
  have ex : (((s[i.toNat]'(by omega)).toNat : Nat) : Int) = s[i.toNat]'(by omega) := by have := hx.1; omega
  have ey : (((t[i.toNat]'(by omega)).toNat : Nat) : Int) = t[i.toNat]'(by omega) := by have := hy.1; omega
  simp only [ex, ey] at hok
  have hfin : aO (s[i.toNat]'(by omega)) ≠ aO (t[i.toNat]'(by omega)) -> decide (s.map aO = t.map aO) = false := fun h => OT (by omega) (by omega) h
  have hstep : aO (s[i.toNat]'(by omega)) = aO (t[i.toNat]'(by omega)) -> (s.take (i + 1).toNat).map aO = (t.take (i + 1).toNat).map aO := fun h => MS i0 hi hit hI h
  have hw : IntKind.i64.wrap (i.add 1) = i + 1 := zf (by omega) (by omega)
  refine ⟨i0, hi, i0, hit, ?_⟩
  rw [cond_prop]
  generalize hxe : s[i.toNat]'(by omega) = x at *
  generalize hye : t[i.toNat]'(by omega) = y at *
  refine ⟨fun h => ?_, fun h => ?_⟩
  ·have h := hok.1 (of_decide_eq_true h)
   have hne : decide (s.map aO = t.map aO) = false := hfin (by unfold aO; (repeat' split) <;> omega)
   rw [hne]
   have hS : List.take ((s.length : Int).toNat.sub i.toNat) (List.drop i.toNat s) = s.drop i.toNat := List.take_of_length_le (by rw [List.length_drop]; simp only [kH]; omega)
   have hT : List.take ((t.length : Int).toNat.sub i.toNat) (List.drop i.toNat t) = t.drop i.toNat := List.take_of_length_le (by rw [List.length_drop]; simp only [kH]; omega)
   rw [hS, hT]
   have hT0 : t.drop i.toNat = y :: t.drop (i + 1).toNat := by rw [drop_at i0 hit, hye]
   refine ⟨i0, by omega, Int.le_refl _, i0, by omega, Int.le_refl _, (s.drop i.toNat, 0, t.drop i.toNat), ⟨rfl, rfl, fun z hz => hasc z (List.mem_of_mem_drop hz), fun z hz => hs.1 z (List.mem_of_mem_drop hz), fun z hz => ht.1 z (List.mem_of_mem_drop hz), Nat.zero_le _, .inr ⟨by dsimp only; rw [List.length_drop, List.length_drop]; omega, by rw [hT0]; exact List.cons_ne_nil _ _, by rw [hT0]; show 128 <= y; have := hy.1; omega⟩⟩, ?_⟩
   have hS0 : (s.drop i.toNat).length <= 1000 := by rw [List.length_drop]; omega
   generalize s.drop i.toNat = S0 at hS0
   rintro ⟨S, p, T⟩ ⟨hSS, ha, hb, htb, hpS, hbad⟩
   dsimp only at hSS ha hb htb hpS hbad ⊢
   refine ⟨fun hp => ?_, fun hp => ?_⟩
   ·rw [MQ S p hp hb ha]
    dsimp only
    have hc := hb _ (List.getElem_mem hp)
    have hca := ha _ (List.getElem_mem hp)
    rw [cond_prop]
    refine ⟨fun _ => ⟨rfl, trivial⟩, fun hT0 => ?_⟩
    have hT0 : ¬ (T.length : Int) = 0 := of_decide_eq_false hT0
    have PX : T ≠ [] := fun e => hT0 (by rw [e]; rfl)
    have hTl : T.length <= 1000000 := by
     unfold U.bad at hbad
     rw [<- hSS] at hS0
     omega
    obtain ⟨f1, f2, f3⟩ := KD (T := T) ⟨htb, by show T.length <= 9223372036854775807; omega⟩ PX
    have hTT : List.take ((T.length : Int).toNat.sub (U.bV T).2.toNat) (List.drop (U.bV T).2.toNat T) = T.drop (U.bV T).2.toNat := List.take_of_length_le (by rw [List.length_drop]; simp only [kH]; omega)
    rw [hTT]
    generalize S[p] = c at *
    generalize hr : (U.bV T).1 = r at *
    generalize (U.bV T).2 = z at *
    have nxt : ¬ (z = 1 /\ 128 <= U.s0 T) -> U.bad (S.length - (p + 1)) (T.drop z.toNat) := fun h => by
     left
     rw [List.length_drop]
     rcases hbad with hb | ⟨hb, _, h8⟩
     ·omega
     ·have : z ≠ 1 := fun e => h ⟨e, h8⟩
      omega
    have go : ¬ (z = 1 /\ 128 <= U.s0 T) -> ∃ y : List Int × Nat × List Int, U.aJ S (p.add 1) (T.drop z.toNat) = U.aJ y.1 y.2.1 y.2.2 /\ U.bn S0 0 (t.drop i.toNat) y.1 y.2.1 y.2.2 /\ y.1.length.sub y.2.1 < S.length.sub p :=
     fun h => ⟨(S, p + 1, T.drop z.toNat), rfl, ⟨hSS, ha, hb, fun z hz => htb z (List.mem_of_mem_drop hz), by dsimp only; omega, nxt h⟩, by simp only [kH]; omega⟩
    refine ⟨by omega, f2, Int.le_refl _, ?_⟩
    rw [cond_prop]
    refine ⟨fun e => go fun h => ?_, fun e => ?_⟩
    ·have e : r = c := of_decide_eq_true e
     have := f3 h.1 h.2; omega
    rw [cond_prop]
    refine ⟨fun e1 => ?_, fun e1 => ?_⟩
    ·have e1 : r < c := of_decide_eq_true e1
     rw [decide_eq_true (show c < 128 from hca), cond_true, cond_prop]
     refine ⟨fun _ => go fun h => ?_, fun _ => ⟨rfl, trivial⟩⟩
     have := f3 h.1 h.2; omega
    ·rw [cond_prop]
     refine ⟨fun e2 => ?_, fun e2 => ?_⟩
     ·have e2 : r < 128 := of_decide_eq_true e2
      rw [cond_prop]
      refine ⟨fun _ => go fun h => ?_, fun _ => ⟨rfl, trivial⟩⟩
      have := f3 h.1 h.2; omega
     ·have OU : U.jk c := .inl ⟨hc.1, hca⟩
      refine ⟨OU, (S, p + 1, T.drop z.toNat, c, r, U.bI c), ⟨rfl, rfl, rfl, rfl, rfl, rfl, Hg OU, MR ⟨hc.1, hca⟩⟩, ?_⟩
      rintro ⟨S1, p1, T1, c1, r1, q⟩ ⟨k1, k2, k3, k4, k5, hq, hk⟩
      dsimp only at k1 k2 k3 k4 k5 hq hk ⊢
      subst k1 k2 k3 k4 k5
      rw [cond_prop]
      refine ⟨fun e3 => ?_, fun e3 => ?_⟩
      ·simp only [Bool.and_eq_true, bne_iff_ne, ne_eq, decide_eq_true_eq] at e3
       have hqc := e3.1
       have hk2 : U.bI q = c1 ∨ U.bI (U.bI q) = c1 := by
        rcases hk with h | h | h
        ·exact absurd h hqc
        ·exact .inl h
        ·exact .inr h
       refine ⟨hq, (S1, p + 1, T.drop z.toNat, c1, r1, U.bI q), rfl, ⟨rfl, rfl, rfl, rfl, rfl, Hg hq, by rcases hk2 with h | h; exact .inl h; exact .inr (.inl h)⟩, ?_⟩
       dsimp only
       rw [decide_eq_false hqc, cond_false]
       by_cases h1 : U.bI q = c1
       ·rw [decide_eq_true h1]; exact Nat.zero_lt_one
       ·rw [decide_eq_false h1, cond_false, cond_false, decide_eq_true (hk2.resolve_left h1)]; exact Nat.lt_succ_self 1
      ·rw [cond_prop]
       refine ⟨fun e4 => go fun h => ?_, fun _ => ⟨rfl, trivial⟩⟩
       have e4 : q = r1 := of_decide_eq_true e4
       have := f3 h.1 h.2
       unfold U.jk at hq; omega
   ·exfalso
    unfold U.bad at hbad
    rcases hbad with h | ⟨h, h2, _⟩
    ·omega
    ·exact h2 (List.length_eq_zero_iff.1 (by omega))
  ·have go : aO x = aO y -> ∃ y : Int, U.aV s t (IntKind.i64.wrap (i.add 1)) = U.aV s t y /\ U.bZ s t y /\ s.length.sub y.toNat < s.length.sub i.toNat := fun h => by
    rw [hw]; exact ⟨i + 1, rfl, ⟨⟨by omega, by omega⟩, hlen, hstep h⟩, by simp only [kH]; omega⟩
   have fin : aO x ≠ aO y -> false = decide (s.map aO = t.map aO) /\ True := fun h => ⟨(hfin h).symm, trivial⟩
   clear hok hstep hfin h
   have hx1 := hx.1; have hy1 := hy.1; have hx2 := hx.2; have hy2 := hy.2
   rw [cond_prop]
   refine ⟨fun h1 => go (by rw [of_decide_eq_true h1]), fun h1 => ?_⟩
   have h1 := of_decide_eq_false h1
   have wr : ∀ z : Int, 65 <= z -> z <= 90 -> IntKind.u8.wrap ((IntKind.u8.wrap (z.add 97)).sub 65) = z + 32 := fun z h1 h2 => by rw [Jk, DI, wrap_u8, wrap_u8]; omega
   rw [cond_prop]
   refine ⟨fun h2 => ?_, fun h2 => ?_⟩
   ·have h2 := of_decide_eq_true h2
    rw [cond_prop]
    refine ⟨fun h3 => go ?_, fun h3 => fin ?_⟩
    ·simp only [Bool.and_eq_true, decide_eq_true_eq] at h3
     rw [wr y h3.1.1 h3.1.2] at h3
     unfold aO; (repeat' split) <;> omega
    ·by_cases h4 : 65 <= y /\ y <= 90
     ·rw [wr y h4.1 h4.2, decide_eq_true h4.1, decide_eq_true h4.2] at h3
      have h3 := of_decide_eq_false (by simpa using h3)
      unfold aO; (repeat' split) <;> omega
     ·unfold aO; (repeat' split) <;> omega
   ·have h2 := of_decide_eq_false h2
    rw [cond_prop]
    refine ⟨fun h3 => go ?_, fun h3 => fin ?_⟩
    ·simp only [Bool.and_eq_true, decide_eq_true_eq] at h3
     rw [wr x h3.1.1 h3.1.2] at h3
     unfold aO; (repeat' split) <;> omega
    ·by_cases h4 : 65 <= x /\ x <= 90
     ·rw [wr x h4.1 h4.2, decide_eq_true h4.1, decide_eq_true h4.2] at h3
      have h3 := of_decide_eq_false (by simpa using h3)
      unfold aO; (repeat' split) <;> omega
     ·unfold aO; (repeat' split) <;> omega
 ·have hi : ¬ i < s.length := of_decide_eq_false hi
  rw [Am (by omega), Am (by omega)] at hI
  rw [hI, decide_eq_true rfl, decide_eq_true (by omega)]
  exact ⟨rfl, trivial⟩
end Go.Proofs.YtdobgidhhpdihaaDoor
set_option linter.unusedSimpArgs false
set_option maxRecDepth 100000
set_option linter.unusedVariables false
namespace Go.Proofs.YtdobgidhhpdihaaDoor
open Go.Vc
theorem jQ (x : aX [.str]) : mJ Tryd.prog (iT []) (fH x) 26 (jF [.str] x) [] (dD x) = dn x := by kernel_rfl
theorem jR : Pok 26 [.str] (fun x => dD x) := by
 refine pk (L := fun x => fH x) (l := []) LC (fun _ => rfl) ?_
 intro x hv hp
 rw [jQ]
 exact jG x hv
theorem jS : kU Tryd.prog gl 26 fG := jR
theorem eX : iK bM := .cons jS LC
theorem lq (x : aX [.str]) : mJ Tryd.prog (iT bM) (gW x) 21 (jF [.str] x) [] (dQ x) = dM x := by kernel_rfl
theorem lu : Pok 21 [.str] (fun x => dQ x) := by
 refine pk (L := fun x => gW x) (l := bM) eX (fun _ => rfl) ?_
 intro x hv hp
 rw [lq]
 exact kQ x hv
theorem lC : kU Tryd.prog gl 21 gV := lu
theorem gu : iK cu := .cons lC eX
theorem wF (x : aX [.int .i32]) : mJ Tryd.prog (iT cu) (mZ x) 22 (jF [.int .i32] x) [] (gX x) = jl x := by kernel_rfl
theorem wG : Pok 22 [.int .i32] (fun x => gX x) := by
 refine pk (L := fun x => mZ x) (l := cu) gu (fun _ => rfl) ?_
 intro x hv hp
 rw [wF]
 exact vW x (hp (U.jk x) (by simp [gX]))
theorem wH : kU Tryd.prog gl 22 mY := wG
theorem mX : iK gY := .cons wH gu
theorem yx (x : aX [.str, .str]) : mJ Tryd.prog (iT gY) (oN x.1 x.2) 17 (jF [.str, .str] x) [] (iL x.1 x.2) = jA x.1 x.2 := by kernel_rfl
theorem yA : Pok 17 [.str, .str] (fun x => iL x.1 x.2) := by
 refine pk (L := fun x => oN x.1 x.2) (l := gY) mX (fun _ => rfl) ?_
 intro x hv hp
 rw [yx]
 exact wE x.1 x.2 hv.1 hv.2 (hp (yw x.1 /\ List.length (α := Int) x.1 = List.length (α := Int) x.2 /\ List.length (α := Int) x.1 <= 1000) (by simp [iL]))
theorem yB : kU Tryd.prog gl 17 oM := yA
theorem wI : iK oO := .cons yB mX
theorem EM : kU Tryd.prog gl 20 wB := OM (fn := Tryd.f20) Tryd.func20 (by kernel_rfl) rfl Tryd.strings_Join_none Tryd.strings_Join
theorem uF : iK kX := .cons EM wI
end Go.Proofs.YtdobgidhhpdihaaDoor
